import Derived.Test.YtjliakjbdcplcaaGreatQ1
import Derived.Test.YtjliakjbdcplcaaGreatQ5
import Derived.Test.YtjliakjbdcplcaaGreatQ6
import Derived.Test.YtjliakjbdcplcaaGreatQ7
import Derived.Test.YtjliakjbdcplcaaGreatQ8
set_option linter.unusedSimpArgs false
set_option linter.unusedVariables false
set_option maxRecDepth 100000
set_option maxHeartbeats 4000000
section
open Go.Proofs.YtjliakjbdcplcaaGreat.Vm Go.RowKit
attribute [local push_cast] prS zo_ zp_ xt_ y8_ y7_ y6_ y5_ y4_ xs_ y3_ y2_ y1_ zn_ z2_ z4_ z1_ zu_ zt_ iOf
section
namespace Go.Proofs.YtjliakjbdcplcaaGreat.Vm
open Go.RowKit
theorem evm_in1 (i:Ins)(a:Bool→SV→Option (Prop×SV))(b:SV→Option (Prop×SV))(c:Unit→Option (Prop×SV)):ev.match_1 (fun _=>Option (Prop×SV)) (some (yu_ i)) a b c=b (yu_ i):=rfl
def cRG:FuncId→Option yn_:=y9_ [(116,sROne)]
theorem cRG_ok:∀f S,cRG f=some S→zi_ Tryz.prog f S:=zr_ ⟨sROne_ok,trivial⟩
theorem rgoes_lit (i:Ins)(hi:i.ok):zs_ Tryz.prog 118 [yu_ i] [.gone] (.bool (goesB i)) [.gone]:=by
 by_cases he:oneE i=0<;>by_cases h1:i.op=1<;>by_cases h2:i.op=2<;>by_cases h9:i.op=9
 all_goals
  refine zf_ (fn:=Tryz.f118) 1 21 0 rfl rfl rfl rfl rfl u3_ rfl fun w0 M E hro=>?_
  repeat' (first|refine Ctl.h ?_ |((with_reducible intro hif);first |(focus (cases hif;done)) |((try simp only[JH]at hif);try exact hy_)) |((with_reducible first|apply J22 cRG_ok za_|apply J23 fol cRG_ok za_|apply J24);(·rfl);(· (simp only[push_cast,↓JP,Nat.reduceAdd,Nat.reduceEqDiff,Nat.reduceLT,Nat.reduceMul,Nat.reduceLeDiff,reduceCtorEq,reduceIte,↓JK,evm_in1,cRG,sROne,he,h1,h2,h9];rfl));(try kernel_rfl);(try (focus (first|exact True.intro |((try simp only[JS,implies_true,forall_const,yc_,z7_,x4_]);(first|assumption |(repeat' (first|assumption|exact True.intro|omega|apply And.intro)));done)))))|fail)
 all_goals
  apply At.endsRet za_ (fn:=Tryz.f118) (rs:=[.tmp 2]) Anc.refl hro (lb_ rfl) rfl
  ·exact yl_
  ·exact k6_
  ·exact k7_
  ·rfl
  ·exact k8_
  ·exact k9_
  ·(intro β;simp[resS,SV.den,goesB,he,h1,h2,h9])
  ·exact k8_
def sRGoes:yn_:=fun args h m=>match args with
 | [v1]=>bif isIns v1 then some (((zm_ v1).ok),.bool (goesB (zm_ v1)),[],[])else none
 | _=>none
theorem sRGoes_ok:zi_ Tryz.prog 118 sRGoes:=by
 refine⟨zg_ (by kernel_rfl),fun args h m c v rd wr hs hm hc w0 M β h' w R hrd hwr hst=>?_⟩
 unfold sRGoes at hs
 split at hs
 ·rename_i v1
  obtain⟨hb,hs⟩:=zl_ hs
  simp only[Option.some.injEq,Prod.mk.injEq]at hs
  obtain⟨rfl,rfl,rfl,rfl⟩:=hs
  have b1:=hb
  have y1:=hc
  refine yh_ (views:=[]) (rgoes_lit (zm_ v1) y1) ?_ R hm hwr ?_ ?_ ?_
  ·intro x hx;cases hx
  ·exact d27_
  ·exact k8_
  ·exact k8_
 ·cases hs
theorem targB_of {i:Ins}(he:oneE i=0):targB i=decide (9≤i.op∧i.op≤11):=by
 unfold targB
 rw[he,Bool.eq_iff_iff]
 simp
 omega
theorem targB_no {i:Ins}(he:oneE i≠0):targB i=false:=by
 unfold targB
 simp[he]
theorem rtarg_lit (i:Ins)(hi:i.ok):zs_ Tryz.prog 117 [yu_ i] [.gone] (.tup [.int .i64 (targV i),.bool (targB i)]) [.gone]:=by
 by_cases he:oneE i=0<;>by_cases h1:i.op < 9<;>by_cases h2:11 < i.op
 all_goals
  refine zf_ (fn:=Tryz.f117) 1 19 0 rfl rfl rfl rfl rfl u3_ rfl fun w0 M E hro=>?_
  repeat' (first|refine Ctl.h ?_ |((with_reducible intro hif);first |(focus (cases hif;done)) |((try simp only[JH]at hif);try exact hy_)) |((with_reducible first|apply J22 cRG_ok za_|apply J23 fol cRG_ok za_|apply J24);(·rfl);(· (simp only[push_cast,↓JP,Nat.reduceAdd,Nat.reduceEqDiff,Nat.reduceLT,Nat.reduceMul,Nat.reduceLeDiff,reduceCtorEq,reduceIte,↓JK,evm_in1,cRG,sROne,he,h1,h2,inR,inN];rfl));(try kernel_rfl);(try (focus (first|exact True.intro |((try simp only[JS,implies_true,forall_const,yc_,z7_,x4_,inR,inN]);(first|assumption |(repeat' (first|assumption|exact True.intro|omega|apply And.intro)));done)))))|fail)
 all_goals
  apply At.endsRet za_ (fn:=Tryz.f117) (rs:=[.tmp 2,.tmp 3]) Anc.refl hro (lb_ rfl) rfl
  ·exact yl_
  ·exact k6_
  ·exact k7_
  ·rfl
  ·exact k8_
  ·exact k9_
  ·(intro β;first |(have e:targB i=false:=(by first|exact targB_no he |(rw[targB_of he];exact decide_eq_false (by omega)));simp only[resS,SV.den,denL,targV,e];rfl) |(have e:targB i=true:=(by rw[targB_of he];exact decide_eq_true (by omega));simp only[resS,SV.den,denL,targV,e];rfl))
  ·exact k8_
def sRTarg:yn_:=fun args h m=>match args with
 | [v1]=>bif isIns v1 then some (((zm_ v1).ok),.tup [.int .i64 (targV (zm_ v1)),.bool (targB (zm_ v1))],[],[])else none
 | _=>none
theorem sRTarg_ok:zi_ Tryz.prog 117 sRTarg:=by
 refine⟨zg_ (by kernel_rfl),fun args h m c v rd wr hs hm hc w0 M β h' w R hrd hwr hst=>?_⟩
 unfold sRTarg at hs
 split at hs
 ·rename_i v1
  obtain⟨hb,hs⟩:=zl_ hs
  simp only[Option.some.injEq,Prod.mk.injEq]at hs
  obtain⟨rfl,rfl,rfl,rfl⟩:=hs
  have b1:=hb
  have y1:=hc
  refine yh_ (views:=[]) (rtarg_lit (zm_ v1) y1) ?_ R hm hwr ?_ ?_ ?_
  ·intro x hx;cases hx
  ·exact d27_
  ·exact k8_
  ·exact k8_
 ·cases hs
def cRCk:FuncId→Option yn_:=y9_ [(116,sROne),(117,sRTarg),(118,sRGoes)]
theorem cRCk_ok:∀f S,cRCk f=some S→zi_ Tryz.prog f S:=zr_ ⟨sROne_ok,sRTarg_ok,sRGoes_ok,trivial⟩
theorem rcheck_lit (P:List Ins)(p1:Nat)(hok:∀x∈P,x.ok):zs_ Tryz.prog 85 [.sl 1 2 [] 5 0 P.length (some p1)] [.gone,.gone,.ro (.arr P.length 5 (prS P))] (.tup [.int .i64 (checkI P).1,.int .i64 (checkI P).2]) [.gone]:=by
 have hgo:∀j,j < P.length→∃x,P.getD j ⟨0,0,0,0,0⟩=x∧P[j]? = some x∧x.ok:=fun j hj=>⟨P[j],by rw[List.getD_eq_getElem?_getD,List.getElem?_eq_getElem hj];rfl,List.getElem?_eq_getElem hj,hok _ (List.getElem_mem _)⟩
 by_cases h0:P.length=0
 ·obtain rfl:=List.eq_nil_of_length_eq_zero h0
  have e:checkI []=(-1,6):=rfl
  rw[e]
  refine zf_ (fn:=Tryz.f85) 3 55 0 rfl rfl rfl rfl rfl u3_ rfl fun w0 M E hro=>?_
  repeat' (first|refine Ctl.h ?_ |((with_reducible intro hif);first |(focus (cases hif;done)) |((try simp only[JH]at hif);try exact hy_)) |((with_reducible first|apply J22 cRCk_ok za_|apply J23 fol cRCk_ok za_|apply J24);(·rfl);(· exact k20_);(try kernel_rfl);try exact yr_)|fail)
  apply At.endsRet za_ (fn:=Tryz.f85) (rs:=[.tmp 2,.tmp 3]) Anc.refl hro (lb_ rfl) rfl
  ·exact yl_
  ·exact k6_
  ·exact k7_
  ·rfl
  ·exact k8_
  ·exact k9_
  ·exact fun β=>rfl
  ·exact k8_
 by_cases h256:256 < P.length
 ·have e:checkI P=(-1,5):=by unfold checkI;rw[if_neg h0,if_pos h256]
  rw[e]
  refine zf_ (fn:=Tryz.f85) 3 55 0 rfl rfl rfl rfl rfl u3_ rfl fun w0 M E hro=>?_
  repeat' (first|refine Ctl.h ?_ |((with_reducible intro hif);first |(focus (cases hif;done)) |((try simp only[JH]at hif);try exact hy_)) |((with_reducible first|apply J22 cRCk_ok za_|apply J23 fol cRCk_ok za_|apply J24);(·rfl);(· exact k21_);(try kernel_rfl);try exact yr_)|fail)
  apply At.endsRet za_ (fn:=Tryz.f85) (rs:=[.tmp 2,.tmp 3]) Anc.refl hro (lb_ rfl) rfl
  ·exact yl_
  ·exact k6_
  ·exact k7_
  ·rfl
  ·exact k8_
  ·exact k9_
  ·exact fun β=>rfl
  ·exact k8_
 have eC:checkI P=checkK P:=by unfold checkI;rw[if_neg h0,if_neg h256]
 rw[eC]
 refine zf_ (fn:=Tryz.f85) 3 55 0 rfl rfl rfl rfl rfl u3_ rfl fun w0 M E hro=>?_
 repeat' (first|refine Ctl.h ?_ |((with_reducible intro hif);first |(focus (cases hif;done)) |((try simp only[JH]at hif);try exact hy_)) |((with_reducible first|apply J22 cRCk_ok za_|apply J23 fol cRCk_ok za_|apply J24);(·rfl);(· exact k21_);(try kernel_rfl);try exact yr_)|fail)
 refine WF.loopAt (fun (k:Nat)=>k≤P.length∧∀i,i < k→∀y,P[i]? = some y→badAt P.length y=0) (fun (k:Nat)=>[(0,.sl 1 2 [] 5 0 P.length (some p1)),(4,.nat .i64 k)]) (fun (k:Nat)=>[.gone,.gone,.ro (.arr P.length 5 (prS P))]) (fun (k:Nat)=>P.length - k) 0 ⟨Nat.zero_le _,fun i hi=>absurd hi (Nat.not_lt_zero i)⟩ ?_ ?_ rfl ?_ ?_ rfl ?_
 ·exact we_
 ·exact k7_
 ·exact k8_
 ·exact k8_
 rintro k ⟨hk,hB⟩
 by_cases hkl:k < P.length
 ·obtain⟨x,hx,hx2,hxo⟩:=hgo k hkl
  by_cases he:oneE x=0
  ·by_cases ht:targB x=true
   ·by_cases hv:(P.length:Int)≤targV x
    ·have eb:badAt P.length x=142:=by unfold badAt;rw[if_neg (fun h=>h he),if_pos ⟨ht,hv⟩]
     have e:=checkK_bad hB hx2 eb (by decide)
     rw[e]
     repeat' (first|refine Ctl.h ?_ |((with_reducible intro hif);first |(focus (cases hif;done)) |((try simp only[JH]at hif);try exact hy_)) |((with_reducible first|apply J22 cRCk_ok za_|apply J23 fol cRCk_ok za_|apply J24);(·rfl);(· exact k23_);(try kernel_rfl);try exact k22_)|fail)
     apply At.endsRet za_ (fn:=Tryz.f85) (rs:=[.tmp 2,.tmp 3]) Anc.refl hro (lb_ rfl) rfl
     ·exact yl_
     ·exact k6_
     ·exact k7_
     ·rfl
     ·exact k8_
     ·exact k9_
     ·exact fun β=>rfl
     ·exact k8_
    ·have eb:badAt P.length x=0:=by unfold badAt;rw[if_neg (fun h=>h he),if_neg (fun h=>hv h.2)]
     repeat' (first|refine Ctl.h ?_ |((with_reducible intro hif);first |(focus (cases hif;done)) |((try simp only[JH]at hif);try exact hy_)) |((with_reducible first|apply J22 cRCk_ok za_|apply J23 fol cRCk_ok za_|apply J24);(·rfl);(· exact k23_);(try kernel_rfl);try exact k22_)|fail)
     refine At.next (k+1) ?_ ?_ ?_ rfl ?_ ?_ rfl
     ·exact k19_
     ·exact we_
     ·exact k7_
     ·exact k8_
     ·exact k8_
   ·have eb:badAt P.length x=0:=by unfold badAt;rw[if_neg (fun h=>h he),if_neg (fun h=>ht h.1)]
    repeat' (first|refine Ctl.h ?_ |((with_reducible intro hif);first |(focus (cases hif;done)) |((try simp only[JH]at hif);try exact hy_)) |((with_reducible first|apply J22 cRCk_ok za_|apply J23 fol cRCk_ok za_|apply J24);(·rfl);(· (simp only[push_cast,↓JP,Nat.reduceAdd,Nat.reduceEqDiff,Nat.reduceLT,Nat.reduceMul,Nat.reduceLeDiff,reduceCtorEq,reduceIte,↓JK,evm_in1,cRCk,sROne,sRTarg,sRGoes,hkl,hx,he,ht,inR,inN];rfl));(try kernel_rfl);try exact k22_)|fail)
    refine At.next (k+1) ?_ ?_ ?_ rfl ?_ ?_ rfl
    ·exact k19_
    ·exact we_
    ·exact k7_
    ·exact k8_
    ·exact k8_
  ·have eb:badAt P.length x=oneE x:=if_pos he
   have e:=checkK_bad hB hx2 eb he
   rw[e]
   repeat' (first|refine Ctl.h ?_ |((with_reducible intro hif);first |(focus (cases hif;done)) |((try simp only[JH]at hif);try exact hy_)) |((with_reducible first|apply J22 cRCk_ok za_|apply J23 fol cRCk_ok za_|apply J24);(·rfl);(· (simp only[push_cast,↓JP,Nat.reduceAdd,Nat.reduceEqDiff,Nat.reduceLT,Nat.reduceMul,Nat.reduceLeDiff,reduceCtorEq,reduceIte,↓JK,evm_in1,cRCk,sROne,sRTarg,sRGoes,hkl,hx,he,inR,inN];rfl));(try kernel_rfl);try exact k22_)|fail)
   apply At.endsRet za_ (fn:=Tryz.f85) (rs:=[.tmp 2,.tmp 3]) Anc.refl hro (lb_ rfl) rfl
   ·exact yl_
   ·exact k6_
   ·exact k7_
   ·rfl
   ·exact k8_
   ·exact k9_
   ·exact fun β=>rfl
   ·exact k8_
 ·obtain rfl:k=P.length:=by omega
  have e:=checkK_none (p:=P) (fun i hi y hy=>hB i hi y hy)
  obtain⟨x,hx,hx2,hxo⟩:=hgo (P.length - 1) (by omega)
  rw[e,hx]
  have hlm:((P.length:Int) - 1).toNat=P.length - 1:=by omega
  by_cases hg:goesB x=true
  ·rw[if_pos hg]
   repeat' (first|refine Ctl.h ?_ |((with_reducible intro hif);first |(focus (cases hif;done)) |((try simp only[JH]at hif);try exact hy_)) |((with_reducible first|apply J22 cRCk_ok za_|apply J23 fol cRCk_ok za_|apply J24);(·rfl);(· exact k24_);(try kernel_rfl);try exact k22_)|fail)
   apply At.endsRet za_ (fn:=Tryz.f85) (rs:=[.tmp 2,.tmp 3]) Anc.refl hro (lb_ rfl) rfl
   ·exact yl_
   ·exact k6_
   ·exact k7_
   ·rfl
   ·exact k8_
   ·exact k9_
   ·exact fun β=>rfl
   ·exact k8_
  ·rw[if_neg hg]
   repeat' (first|refine Ctl.h ?_ |((with_reducible intro hif);first |(focus (cases hif;done)) |((try simp only[JH]at hif);try exact hy_)) |((with_reducible first|apply J22 cRCk_ok za_|apply J23 fol cRCk_ok za_|apply J24);(·rfl);(· exact k24_);(try kernel_rfl);try exact k22_)|fail)
   apply At.endsRet za_ (fn:=Tryz.f85) (rs:=[.tmp 2,.tmp 3]) Anc.refl hro (lb_ rfl) rfl
   ·exact yl_
   ·exact k6_
   ·exact k7_
   ·rfl
   ·exact k8_
   ·exact k9_
   ·exact fun β=>rfl
   ·exact k8_
def sRCheck:yn_:=fun args h m=>match args with
 | [v1]=>match xm_ h 5 (.tup []) v1 with
  | some (c1,n1,f1,r1)=>some (c1∧(∀q,q < n1→isIns (f1 q)=true)∧((∀x∈(ls zm_ n1 f1),x.ok)),.tup [.int .i64 (checkI (ls zm_ n1 f1)).1,.int .i64 (checkI (ls zm_ n1 f1)).2],r1,[])
  | _=>none
 | _=>none
theorem sRCheck_ok:zi_ Tryz.prog 85 sRCheck:=by
 refine⟨zg_ (by kernel_rfl),fun args h m c v rd wr hs hm hc w0 M β h' w R hrd hwr hst=>?_⟩
 unfold sRCheck at hs
 split at hs
 ·rename_i v1
  split at hs
  ·rename_i c1 n1 f1 r1 a1
   simp only[Option.some.injEq,Prod.mk.injEq]at hs
   obtain⟨rfl,rfl,rfl,rfl⟩:=hs
   obtain⟨k1,g1,y1⟩:=hc
   obtain⟨A1,p1,d1,e1,t1⟩:=zh_ R a1 k1 (fun i hi=>hrd i hi) (by omega)
   refine yh_ (views:=[⟨5,(ls zm_ n1 f1).length,prS (ls zm_ n1 f1),A1,p1⟩]) (rcheck_lit (ls zm_ n1 f1) p1 y1) ?_ R hm hwr ?_ ?_ ?_
   ·intro x hx
    simp only[List.mem_cons,List.not_mem_nil,or_false]at hx
    subst hx
    ·exact x2_ t1 e1 g1
   ·exact d28_
   ·exact k8_
   ·exact k8_
  ·cases hs
 ·cases hs
def oldB (ρ : Nat→Nat):List HB→List HB→List Nat→List (Nat×HB)
 | [],_,_=>[]
 | b::L0,L1,l=>match L1,l with
  | c::L1,j::l=>bif b.mine then(j,c.ren ρ)::oldB ρ L0 L1 l else oldB ρ L0 L1 l
  | _,_=>[]
def mrgL:List HB→List HB→List HB
 | [],L1=>L1
 | b::L0,L1=>match L1 with
  | c::L1=>(bif b.mine then c else b)::mrgL L0 L1
  | []=>[]
def noRo2:List HB→List HB→Bool
 | [],L1=>L1.all fun c=>!c.isRo
 | b::L0,L1=>match L1 with
  | c::L1=>(!b.mine ||(c.born && !c.isRo)) && noRo2 L0 L1
  | []=>true
theorem hp_cons (b:HB)(L:List HB)(i:Nat):hp (b::L) (i+1)=hp L i:=by unfold hp;simp
theorem hp_zero (b:HB)(L:List HB):hp (b::L) 0=b:=by unfold hp;simp
theorem noRo2_old:∀{L0 L1:List HB},noRo2 L0 L1=true→L0.length≤L1.length→∀i,i < L0.length→(hp L0 i).mine=true→(hp L1 i).born=true∧(hp L1 i).isRo=false
 | [],_,_,_,i,hi,_=>by simp at hi
 | b::L0,[],_,hl,_,_,_=>by simp at hl
 | b::L0,c::L1,h,hl,i,hi,hm=>by
  simp only[noRo2,Bool.and_eq_true,Bool.or_eq_true,Bool.not_eq_true']at h
  cases i with
  | zero=>
   rw[hp_zero]at hm
   rw[hp_zero]
   rcases h.1 with h1|h1
   ·rw[hm]at h1;cases h1
   ·exact h1
  | succ i=>
   rw[hp_cons]at hm
   rw[hp_cons]
   exact noRo2_old h.2 (by simpa using hl) i (by simpa using hi) hm
theorem noRo2_new:∀{L0 L1:List HB},noRo2 L0 L1=true→L0.length≤L1.length→∀i,L0.length≤i→(hp L1 i).isRo=false
 | [],L1,h,_,i,_=>by
  simp only[noRo2,List.all_eq_true]at h
  unfold hp
  rw[List.getD_eq_getElem?_getD]
  cases hh:L1[i]? with
  | none=>rfl
  | some x=>simpa using h x (List.mem_of_getElem? hh)
 | b::L0,[],_,hl,_,_=>by simp at hl
 | b::L0,c::L1,h,hl,i,hi=>by
  simp only[noRo2,Bool.and_eq_true]at h
  cases i with
  | zero=>simp at hi
  | succ i=>
   rw[hp_cons]
   exact noRo2_new h.2 (by simpa using hl) i (by simpa using hi)
theorem mrgL_get:∀{L0 L1:List HB},L0.length≤L1.length→∀i,hp (mrgL L0 L1) i=if i < L0.length then(bif (hp L0 i).mine then hp L1 i else hp L0 i)else hp L1 i
 | [],L1,_,i=>by simp[mrgL]
 | b::L0,[],hl,_=>by simp at hl
 | b::L0,c::L1,hl,i=>by
  cases i with
  | zero=>simp[mrgL,hp_zero]
  | succ i=>
   simp only[mrgL,hp_cons]
   rw[mrgL_get (by simpa using hl) i]
   simp
theorem wrs_oldB_ne {ρ : Nat→Nat}:∀{L0 L1:List HB} {l:List Nat} {h:HM} {j:Nat},(∀i,i < L0.length→(hp L0 i).mine=true→l.getD i 0≠j)→wrs h (oldB ρ L0 L1 l) j=h j
 | [],_,_,h,j,_=>rfl
 | b::L0,[],l,h,j,_=>rfl
 | b::L0,c::L1,[],h,j,_=>rfl
 | b::L0,c::L1,k::l,h,j,hn=>by
  have ih := fun h' => wrs_oldB_ne (ρ := ρ) (L0 := L0) (L1 := L1) (l := l) (h := h') (j := j) (fun i hi hm=>by
   have:=hn (i+1) (by simpa using hi) (by rw[hp_cons];exact hm)
   simpa using this)
  cases hb:b.mine with
  | false=>simp only[oldB,hb,cond_false];exact ih h
  | true=>
   simp only[oldB,hb,cond_true]
   show wrs (upd h k (c.ren ρ)) (oldB ρ L0 L1 l) j=h j
   rw[ih,yj_ (fun e=>hn 0 (by simp) (by rw[hp_zero];exact hb) (by simpa using e.symm))]
theorem wrs_oldB {ρ : Nat→Nat}:∀{L0 L1:List HB} {l:List Nat} {h:HM},L0.length≤L1.length→l.length=L0.length→(∀i j,i < j→j < L0.length→(hp L0 i).mine=true→(hp L0 j).mine=true→l.getD i 0≠l.getD j 0)→∀i,i < L0.length→(hp L0 i).mine=true→wrs h (oldB ρ L0 L1 l) (l.getD i 0)=(hp L1 i).ren ρ
 | [],_,_,h,_,_,_,i,hi,_=>by simp at hi
 | b::L0,[],l,h,hl,_,_,_,_,_=>by simp at hl
 | b::L0,c::L1,[],h,_,hl,_,_,_,_=>by simp at hl
 | b::L0,c::L1,k::l,h,hle,hln,hn,i,hi,hm=>by
  cases i with
  | zero=>
   rw[hp_zero]at hm
   simp only[oldB,hm,cond_true,List.getD_cons_zero]
   show wrs (upd h k (c.ren ρ)) (oldB ρ L0 L1 l) k=_
   rw[wrs_oldB_ne (fun i hi hm' e=>hn 0 (i+1) (by omega) (by simpa using hi) (by rw[hp_zero];exact hm) (by rw[hp_cons];exact hm') (by simpa using e.symm)),zy_,hp_zero]
  | succ i=>
   rw[hp_cons]at hm
   have ih := fun h' => wrs_oldB (ρ := ρ) (L0 := L0) (L1 := L1) (l := l) (h := h') (by simpa using hle) (by simpa using hln) (fun a b hab hb ha hb'=>by
    have:=hn (a+1) (b+1) (by omega) (by simpa using hb) (by rw[hp_cons];exact ha) (by rw[hp_cons];exact hb')
    simpa using this) i (by simpa using hi) hm
   rw[List.getD_cons_succ,hp_cons]
   cases hb:b.mine with
   | false=>simp only[oldB,hb,cond_false];exact ih h
   | true=>
    simp only[oldB,hb,cond_true]
    exact ih (upd h k (c.ren ρ))
theorem wrs_app:∀(l:List (Nat×HB)) {m:List (Nat×HB)} {h:HM},wrs h (l++m)=wrs (wrs h l) m
 | [],_,_=>rfl
 | p::l,m,h=>wrs_app l
theorem laid_rw {L0 L1:List HB}{h:HM}{l:List Nat}{m:Nat}{v:SV}(hlen:l.length=L0.length)(hpos:0 < L0.length)(h00:l.getD 0 0=0)(hz:hp L0 0=.gone)(hfit:FitL (wd_ l m) h L0 l)(hinj:∀i j,i < L0.length→j < L0.length→i≠j→(hp L0 i).mine=true→(hp L0 j).mine=true∨(hp L0 j).isRo=true→l.getD i 0≠l.getD j 0)
  (hm:∀i,m≤i→i < m+(L1.length - L0.length)→h i=.dead) (hle:L0.length≤L1.length) (hno:noRo2 L0 L1=true)
  (hst0:xo_ (hp L0) L0) (hstb:∀j,(h j).stable h) (hst1:xo_ (hp (mrgL L0 L1)) (mrgL L0 L1)) (hv:zc_ (hp (mrgL L0 L1)) v) :
  Laid L0 L1 h (wrs h (oldB (wd_ l m) L0 L1 l++newB (wd_ l m) m (L1.drop L0.length))) (wd_ l m) m v:=by
 rw[wrs_app]
 obtain⟨k,hk⟩:∃k,k=L1.length - L0.length:=⟨_,rfl⟩
 have hdl:(L1.drop L0.length).length=k:=by rw[List.length_drop,hk]
 have hrl:∀i,i < L0.length→wd_ l m i=l.getD i 0:=fun i hi=>if_pos (by omega)
 have hrn:∀i,L0.length≤i→wd_ l m i=m+(i - L0.length):=fun i hi=>by
  unfold wd_;rw[if_neg (by omega),hlen]
 have hget:∀j,m≤j→(L1.drop L0.length).getD (j - m) .dead=hp L1 (L0.length+(j - m)):=fun j hj=>by
  unfold hp
  rw[List.getD_eq_getElem?_getD,List.getD_eq_getElem?_getD,List.getElem?_drop]
 have hmr:=mrgL_get hle
 generalize hh1:wrs h (oldB (wd_ l m) L0 L1 l)=h1
 have hnewj:∀j,m≤j→j < m+k→wrs h1 (newB (wd_ l m) m (L1.drop L0.length)) j=(hp L1 (L0.length+(j - m))).ren (wd_ l m):=fun j h1 h3=>by
  rw[wrs_newB,if_pos ⟨h1,by omega⟩,hget j h1]
 have holdj:∀j,¬(m≤j∧j < m+k)→wrs h1 (newB (wd_ l m) m (L1.drop L0.length)) j=h1 j:=fun j hj=>by
  rw[wrs_newB,if_neg (by rw[hdl];exact hj)]
 have bornold:∀j,(h j).born=true→¬(m≤j∧j < m+k):=fun j hj hc=>by
  rw[hm j hc.1 (by omega)]at hj;cases hj
 have hfit':∀i,i < L0.length→Fit (wd_ l m) (hp L0 i) (h (wd_ l m i)):=fun i hi=>by rw[hrl i hi];exact fitL_get hfit i hi
 have hborn:∀i,i < L0.length→(h (l.getD i 0)).born=true:=fun i hi=>by rw[←hrl i hi];exact(hfit' i hi).born
 have him:∀i,i < L0.length→(hp L0 i).mine=true→h1 (l.getD i 0)=(hp L1 i).ren (wd_ l m):=fun i hi hmi=>by
  rw[←hh1]
  exact wrs_oldB hle hlen (fun a b hab hb ha hb'=>hinj a b (by omega) hb (by omega) ha (.inl hb')) i hi hmi
 have hne:∀j,(∀i,i < L0.length→(hp L0 i).mine=true→l.getD i 0≠j)→h1 j=h j:=fun j hj=>by
  rw[←hh1]
  exact wrs_oldB_ne hj
 have born_ren:∀{b:HB},b.born=true→(b.ren (wd_ l m)).born=true:=fun {b} hb=>by
  cases b<;>first|rfl |(cases hb;done)
 have more1:∀j,(h j).born=true→(h1 j).born=true:=fun j hj=>by
  by_cases hc:∃i,i < L0.length∧(hp L0 i).mine=true∧l.getD i 0=j
  ·obtain⟨i,hi,hmi,rfl⟩:=hc
   rw[him i hi hmi]
   exact born_ren (noRo2_old hno hle i hi hmi).1
  ·rw[hne j (fun i hi hmi e=>hc ⟨i,hi,hmi,e⟩)];exact hj
 have more:∀i,(h i).born=true→(wrs h1 (newB (wd_ l m) m (L1.drop L0.length)) i).born=true:=fun i hi=>by rw[holdj i (bornold i hi)];exact more1 i hi
 have moreG:∀i,(hp (mrgL L0 L1) i).born=true→(wrs h1 (newB (wd_ l m) m (L1.drop L0.length)) (wd_ l m i)).born=true:=fun i hi=>by
  rw[hmr i]at hi
  split at hi
  ·rename_i hlt
   exact more _ (hfit' i hlt).born
  ·rename_i hge
   have hlt:i < L1.length:=by
    rcases Nat.lt_or_ge i L1.length with h'|h'
    ·exact h'
    ·rw[xn_ h']at hi;cases hi
   rw[hrn i (by omega),hnewj _ (by omega) (by omega),show L0.length+(m+(i - L0.length) - m)=i by omega]
   exact born_ren hi
 have stG:=wf_ hst1
 have ren_st:∀{b:HB},b.stable (hp (mrgL L0 L1))→(b.ren (wd_ l m)).stable (wrs h1 (newB (wd_ l m) m (L1.drop L0.length))):=fun {b} hs=>by
  cases b with
  | own t u ex=>exact zc_.ren moreG hs
  | ro u=>exact zc_.ren moreG hs
  | raw o=>trivial
  | gone=>trivial
  | dead=>trivial
 refine { z:=by rw[hrl 0 hpos,h00],z0:=hz,new:=fun i hi=>hrn i hi,pre:=hfit',inj:=fun i j hi hj hne hmi hmj=>by rw[hrl i hi,hrl j hj];exact hinj i j hi hj hne hmi hmj,img:=fun i hi hmi=>?_,old:=fun j hj hno=>?_,fresh:=fun j hj=>?_,un:=fun i hi hb=>?_,st0:=wf_ hst0,st2:=fun j=>?_,stv:=hv.ren moreG }
 ·rw[hrl i hi,holdj _ (bornold _ (hborn i hi)),him i hi hmi]
  exact⟨rfl,(noRo2_old hno hle i hi hmi).2⟩
 ·rw[holdj j (bornold j hj)]
  exact hne j fun i hi hmi=>by rw[←hrl i hi];exact hno i hi hmi
 ·by_cases hc:m≤j∧j < m+k
  ·exact .inr ⟨hc.1,hnewj j hc.1 hc.2,noRo2_new hno hle _ (by omega)⟩
  ·left
   rw[holdj j hc,hne j (fun i hi hmi e=>by rw[←e,hborn i hi]at hj;cases hj)]
   cases hh:h j<;>rw[hh]at hj<;>first|rfl |(cases hj;done)
 ·exact d23_
 ·by_cases hc:m≤j∧j < m+k
  ·rw[hnewj j hc.1 hc.2]
   have hs:=stG (L0.length+(j - m))
   rw[hmr,if_neg (by omega)]at hs
   exact ren_st hs
  ·rw[holdj j hc]
   by_cases hc2:∃i,i < L0.length∧(hp L0 i).mine=true∧l.getD i 0=j
   ·obtain⟨i,hi,hmi,rfl⟩:=hc2
    rw[him i hi hmi]
    have hs:=stG i
    rw[hmr,if_pos hi,hmi]at hs
    exact ren_st hs
   ·rw[hne j (fun i hi hmi e=>hc2 ⟨i,hi,hmi,e⟩)]
    exact HB.stable_more (hstb j) more
theorem callRW {P:Program}{f:FuncId}{args:List SV}{L0 L1:List HB}{v:SV}{w0 w:World}{M:Nat→Prop}{β : Env}{h h':HM}{m:Nat}(l:List Nat)(H:zs_ P f args L0 v L1)(R:Rep w0 M β h' w)(hlen:l.length=L0.length)(hpos:0 < L0.length)(h00:l.getD 0 0=0)(hz:hp L0 0=.gone)(hfit:FitL (wd_ l m) h' L0 l)
  (hinj:∀i j,i < L0.length→j < L0.length→i≠j→(hp L0 i).mine=true→(hp L0 j).mine=true∨(hp L0 j).isRo=true→l.getD i 0≠l.getD j 0)
  (hm:∀i,m≤i→h i=.dead) (hwr:∀p∈newB (wd_ l m) m (L1.drop L0.length),h' p.1=h p.1) (hle:L0.length≤L1.length) (hno:noRo2 L0 L1=true)
  (hst0:xo_ (hp L0) L0) (hsta:ze_ (hp L0) args) (hst1:xo_ (hp (mrgL L0 L1)) (mrgL L0 L1)) (hv:zc_ (hp (mrgL L0 L1)) v) :
  Calls P f (denL β (renL (wd_ l m) args)).toArray w fun e w'=>∃β',(∀i,(h' i).born=true→β i = β' i)∧Rep w0 M β' (wrs h' (oldB (wd_ l m) L0 L1 l++newB (wd_ l m) m (L1.drop L0.length))) w'∧zc_ (wrs h' (oldB (wd_ l m) L0 L1 l++newB (wd_ l m) m (L1.drop L0.length))) (v.ren (wd_ l m))∧e=.returned ((v.ren (wd_ l m)).den β'):=
 call_lit H R (laid_rw hlen hpos h00 hz hfit hinj (fun i hi hlt=>by
  obtain⟨b,hb⟩:=newB_mem (ρ:=wd_ l m) (l:=L1.drop L0.length) hi (by rw[List.length_drop];exact hlt)
  exact(hwr _ hb).trans (hm i hi)) hle hno hst0 R.st hst1 hv) hsta
theorem arrCl {β : Env}{n k:Nat}{f g:Nat→SV}(h:∀q,q < n→(f q).cl β =(g q).cl β):(SV.arr n k f).cl β =(SV.arr n k g).cl β:=by
 have e:(List.range n).flatMap (fun i=>fit k (((f i).den β).cells.toList.map sane))=(List.range n).flatMap (fun i=>fit k (((g i).den β).cells.toList.map sane)):=by
  rw[List.flatMap_def,List.flatMap_def]
  exact congrArg List.flatten (List.map_congr_left fun q hq=>congrArg (fit k) (h q (List.mem_range.1 hq)))
 simp only[SV.cl,SV.den,e]
theorem At.empty {w0:World}{M:Nat→Prop}{E:Env}{n0 N:Nat}{D:List Deferred}{φ : Fr}{L:List HB}{K:Act→World→Prop}(ty k:Nat)(f:Nat→SV)(hf:∀(h:HM) (q:Nat),zc_ h (f q))
  (h:At w0 M E n0 N D φ (L++[.own ty (.arr 0 k f) false]) K):At w0 M E n0 N D φ L K:=fun a w hS=>by
 obtain⟨⟨β,hE,R,F⟩,hbn,hsz,hd⟩:=hS
 have hm:hp L L.length=.dead:=xn_ (Nat.le_refl _)
 have R1:=nothing R (e:=ty) (k:=k) (g:=f) hm (fun q=>hf _ q)
 have hag:∀i,(hp L i).born=true→β i=setE β L.length (none,0) i:=ym_ hm
 have hborn:∀i,(hp L i).born=true→(upd (hp L) L.length (.own ty (.arr 0 k f) false) i).born=true:=fun i hi=>by
  unfold Vm.upd;split
  ·rfl
  ·exact hi
 refine h a w ⟨⟨setE β L.length (none,0),fun i hi=>(hag i (hbn i hi)).symm.trans (hE i hi),by rw[hp_append1];exact R1,fun u v hu=>?_⟩,fun i hi=>by rw[hp_append1];exact hborn i (hbn i hi),hsz,hd⟩
 rw[hp_append1]
 obtain⟨k1,k2⟩:=F u v hu
 exact⟨k1.more hborn,by rw[k2];exact k1.den hag⟩
theorem WF.empty {P:Program}{w0:World}{M:Nat→Prop}{E:Env}{n0 N n:Nat}{D:List Deferred}{φ : Fr}{L:List HB}{c:Code}{ro:Option Nat}{Q:Exit→Act→World→Prop}(ty k:Nat)(f:Nat→SV)(hf:∀(h:HM) (q:Nat),zc_ h (f q))
  (h:WF ro n P c w0 M E n0 N D φ (L++[.own ty (.arr 0 k f) false]) Q):WF ro n P c w0 M E n0 N D φ L Q:=At.empty ty k f hf h
def nilOr (D:List Int)(b:Nat):SV:=SV.ite D.isEmpty (.sl 0 0 [] 0 0 0 (some 0)) (.sl b b [] 1 0 D.length none)
theorem nilOr_t {D:List Int}{b:Nat}(h:D.isEmpty=true):nilOr D b=.sl 0 0 [] 0 0 0 (some 0):=by unfold nilOr;rw[h];rfl
theorem nilOr_f {D:List Int}{b:Nat}(h:D.isEmpty=false):nilOr D b=.sl b b [] 1 0 D.length none:=by unfold nilOr;rw[h];rfl
theorem nilOr_st {D:List Int}{b:Nat}{hh:HM}(h0:(hh 0).born=true)(hb:(hh b).born=true):zc_ hh (nilOr D b):=by
 cases h:D.isEmpty
 ·rw[nilOr_f h];simp[zc_,hb]
 ·rw[nilOr_t h];simp[zc_,h0]
theorem less_nil {t b b':Nat}{ex:Bool}{σ : Nat→Nat}{D:List Int}(h:D.isEmpty=false)(hb:σ b=b'){n:Nat}(hn:D.length=n):Less (.own t (.sl b' b' [] 1 0 n none) ex) ((HB.own t (nilOr D b) ex).ren σ):=by
 rw[nilOr_f h,←hn]
 simp only[HB.ren,SV.ren,hb]
 exact .same _
theorem less_app {t:Nat}{σ : Nat→Nat}(D:List Int)(k:Int){g:Nat→SV}(hg:∀q,q < D.length+1→∀β,(g q).cl β = [.int .i64 ((D++[k]).getD q 0)]):Less (.own t (.arr (D.length+1) 1 g) false) ((HB.own t (.arr (D++[k]).length 1 (zp_ (D++[k]))) false).ren σ):=by
 have e:(D++[k]).length=D.length+1:=by simp
 rw[e]
 refine .val (fun β=>arrCl fun q hq=>?_) (fun n1 k1 f1 e=>by injection e with e1 e2 e3;subst e1 e2;exact⟨_,rfl⟩) (fun n1 k1 f1 e=>by injection e with e1 e2 e3;subst e1 e2;exact⟨_,rfl⟩)
 rw[hg q hq β];rfl
end Go.Proofs.YtjliakjbdcplcaaGreat.Vm
end
section
namespace Go.Proofs.YtjliakjbdcplcaaGreat.Vm
open Go.RowKit
def stS (s:Sta)(c k:Nat):SV:=.agg [.int .i64 s.at_,.bool s.ended,.arr 8 1 fun q=>.int .i64 (s.regs q),.sl c c [] 1 0 s.cells.length none,.int .i64 s.draws,.sl k k [] 3 0 s.sends.length none]
def evS (v:Evi):SV:=.agg [.int .u64 v.seed,.int .i64 v.process,.int .i64 v.ports,.int .i64 v.look,.int .i64 v.now]
def macS (s:Sta)(v:Evi)(x:Ins)(c k:Nat):SV:=.agg [stS s c k,evS v,yu_ x]
def mB (s:Sta)(v:Evi)(x:Ins)(c k:Nat):HB:=.own 186 (macS s v x c k) true
def cB (s:Sta):HB:=.own 2 (.arr s.cells.length 1 (zp_ s.cells)) false
def sB (s:Sta):HB:=.own 125 (.arr s.sends.length 3 (zo_ s.sends)) false
theorem stS_eq (s:Sta)(c k:Nat):stS s c k=.agg [.int .i64 s.at_,.bool s.ended,.arr 8 1 fun q=>.int .i64 (s.regs q),.sl c c [] 1 0 s.cells.length none,.int .i64 s.draws,.sl k k [] 3 0 s.sends.length none]:=rfl
theorem evS_eq (v:Evi):evS v=.agg [.int .u64 v.seed,.int .i64 v.process,.int .i64 v.ports,.int .i64 v.look,.int .i64 v.now]:=rfl
theorem macS_eq (s:Sta)(v:Evi)(x:Ins)(c k:Nat):macS s v x c k=.agg [stS s c k,evS v,yu_ x]:=rfl
theorem mB_eq (s:Sta)(v:Evi)(x:Ins)(c k:Nat):mB s v x c k=.own 186 (macS s v x c k) true:=rfl
theorem cB_eq (s:Sta):cB s=.own 2 (.arr s.cells.length 1 (zp_ s.cells)) false:=rfl
theorem sB_eq (s:Sta):sB s=.own 125 (.arr s.sends.length 3 (zo_ s.sends)) false:=rfl
set_option linter.defProp false in
def JM:=And.intro @stS_eq (And.intro @evS_eq (And.intro @macS_eq (And.intro @mB_eq (And.intro @cB_eq @sB_eq))))
theorem ls_getD {α : Type}{g:SV→α}{n q:Nat}{f:Nat→SV}{d:α}(h:q < n):(ls g n f).getD q d=g (f q):=by
 simp[ls,h]
def macP (h:HM)(g:Nat):Option (Sta×Evi×Ins×Nat×Nat×Prop):=match h g with
 | .own t (.agg [.agg [a,.bool e,.arr 8 1 rg,.sl z c [] 1 0 nc none,d,.sl z2 k [] 3 0 ns none],.agg [e0,e1,e2,e3,e4],iv]) true=>match h c,h k with
  | .own t1 (.arr n1 1 cf) false,.own t2 (.arr n2 3 sf) false=>
   bif (Nat.beq t 186 && Nat.beq t1 2 && Nat.beq t2 125) && (Nat.beq z c && Nat.beq z2 k && Nat.beq n1 nc && Nat.beq n2 ns) && (isI .i64 a && isI .i64 d) && (isI .u64 e0 && isI .i64 e1 && isI .i64 e2 && isI .i64 e3 && isI .i64 e4) && isIns iv then
    some (⟨iOf a,e,fun q=>iOf (rg q),ls iOf nc cf,iOf d,ls zw_ ns sf⟩,⟨iOf e0,iOf e1,iOf e2,iOf e3,iOf e4⟩,zm_ iv,c,k,(∀q,q < 8→isI .i64 (rg q)=true)∧(∀q,q < nc→isI .i64 (cf q)=true)∧∀q,q < ns→isSnd (sf q)=true)else none
  | _,_=>none
 | _=>none
theorem mac_val {h:HM}{g c k:Nat}{s:Sta}{v:Evi}{x:Ins}{ok:Prop}(hp:macP h g=some (s,v,x,c,k,ok))(hok:ok) :
  ∃l cf sf,h g=.own 186 (.agg l) true∧(∀β,(SV.agg l).cl β =(macS s v x c k).cl β)∧h c=.own 2 (.arr s.cells.length 1 cf) false∧(∀β q,q < s.cells.length→(cf q).cl β =(zp_ s.cells q).cl β) ∧
   h k=.own 125 (.arr s.sends.length 3 sf) false∧(∀β q,q < s.sends.length→(sf q).cl β =(zo_ s.sends q).cl β)∧g≠c∧g≠k∧c≠k:=by
 unfold macP at hp
 split at hp
 ·rename_i t a e rg z c0 nc d z2 k0 ns e0 e1 e2 e3 e4 iv hg
  split at hp
  ·rename_i t1 n1 cf t2 n2 sf hc hk
   obtain⟨hb,hs⟩:=zl_ hp
   simp only[Option.some.injEq,Prod.mk.injEq]at hs
   obtain⟨rfl,rfl,rfl,rfl,rfl,rfl⟩:=hs
   simp only[Bool.and_eq_true]at hb
   obtain⟨⟨⟨⟨⟨⟨b1,b2⟩,b3⟩,⟨⟨b4,b5⟩,b6⟩,b7⟩,b8,b9⟩,⟨⟨⟨b10,b11⟩,b12⟩,b13⟩,b14⟩,b15⟩:=hb
   have b1:=Nat.eq_of_beq_eq_true b1
   have b2:=Nat.eq_of_beq_eq_true b2
   have b3:=Nat.eq_of_beq_eq_true b3
   have b4:=Nat.eq_of_beq_eq_true b4
   have b5:=Nat.eq_of_beq_eq_true b5
   have b6:=Nat.eq_of_beq_eq_true b6
   have b7:=Nat.eq_of_beq_eq_true b7
   subst b1 b2 b3 b4 b5 b6 b7
   obtain⟨hr,hcf,hsf⟩:=hok
   refine⟨_,cf,sf,hg,fun β=>?_,by rw[hc,zb_],fun β q hq=>?_,by rw[hk,zb_],fun β q hq=>?_,?_,?_,?_⟩
   ·have h8:(SV.arr 8 1 rg).cl β =(SV.arr 8 1 fun q=>.int .i64 (iOf (rg q))).cl β:=arrCl fun q hq=>by rw[isI_cl (hr q hq)];rfl
    simp only[macS,stS,evS,cl_agg,clL_cons,clL_nil,h8,isI_cl b8,isI_cl b9,isI_cl b10,isI_cl b11,isI_cl b12,isI_cl b13,isI_cl b14,isIns_cl b15,isIns_cl (zn_ _),z2_,zb_]
    rfl
   ·rw[zb_]at hq
    rw[isI_cl (hcf q hq)]
    unfold zp_
    rw[ls_getD hq];rfl
   ·rw[zb_]at hq
    rw[isSnd_cl (hsf q hq)]
    unfold zo_
    rw[ls_getD hq,isSnd_cl (z4_ _),z1_]
   ·rintro rfl;rw[hg]at hc;cases hc
   ·rintro rfl;rw[hg]at hk;cases hk
   ·rintro rfl;rw[hc]at hk;cases hk
  ·cases hp
 ·cases hp
def macH (h:HM)(g c k:Nat)(s:Sta)(v:Evi)(x:Ins):HM:=upd (upd (upd h g (mB s v x c k)) c (cB s)) k (sB s)
theorem macH_g {h:HM}{g c k:Nat}{s:Sta}{v:Evi}{x:Ins}(n1:g≠c)(n2:g≠k):macH h g c k s v x g=mB s v x c k:=by
 unfold macH;rw[yj_ n2,yj_ n1,zy_]
theorem macH_c {h:HM}{g c k:Nat}{s:Sta}{v:Evi}{x:Ins}(n3:c≠k):macH h g c k s v x c=cB s:=by
 unfold macH;rw[yj_ n3,zy_]
theorem macH_k {h:HM}{g c k:Nat}{s:Sta}{v:Evi}{x:Ins}:macH h g c k s v x k=sB s:=by
 unfold macH;rw[zy_]
theorem macH_o {h:HM}{g c k i:Nat}{s:Sta}{v:Evi}{x:Ins}(n1:i≠g)(n2:i≠c)(n3:i≠k):macH h g c k s v x i=h i:=by
 unfold macH;rw[yj_ n3,yj_ n2,yj_ n1]
theorem macH_born {h:HM}{g c k i:Nat}{s:Sta}{v:Evi}{x:Ins}(hi:(h i).born=true):(macH h g c k s v x i).born=true:=by
 unfold macH Vm.upd
 split
 ·rfl
 ·split
  ·rfl
  ·split
   ·rfl
   ·exact hi
theorem cB_st {h:HM}{s:Sta}:(cB s).stable h:=fun q=>yy_ q
theorem sB_st {h:HM}{s:Sta}:(sB s).stable h:=fun q=>xe_ q
theorem mB_st {h:HM}{s:Sta}{v:Evi}{x:Ins}{c k:Nat}(hc:(h c).born=true)(hk:(h k).born=true):(mB s v x c k).stable h:=by
 simp[mB,HB.stable,macS,stS,evS,yu_,zc_,ze_,hc,hk]
theorem macS_ren (ρ : Nat→Nat)(s:Sta)(v:Evi)(x:Ins)(c k:Nat):(macS s v x c k).ren ρ = macS s v x (ρ c) (ρ k):=by
 simp[macS,stS,evS,yu_,SV.ren,renL]
theorem mB_ren (ρ : Nat→Nat)(s:Sta)(v:Evi)(x:Ins)(c k:Nat):(mB s v x c k).ren ρ = mB s v x (ρ c) (ρ k):=by
 simp[mB,HB.ren,macS_ren]
theorem cB_ren (ρ : Nat→Nat)(s:Sta):(cB s).ren ρ = cB s:=rfl
theorem sB_ren (ρ : Nat→Nat)(s:Sta):(sB s).ren ρ = sB s:=by
 have:(fun q=>(zo_ s.sends q).ren ρ)=zo_ s.sends:=by
  funext q;unfold zo_;simp only[sndS,SV.ren,renL]
 simp[sB,HB.ren,SV.ren,this]
section
variable {w0 w:World} {M:Nat→Prop} {β : Env} {h h':HM} {g c k:Nat} {s:Sta} {v:Evi} {x:Ins} {ok:Prop}
theorem mac_canon (hp:macP h g=some (s,v,x,c,k,ok))(hok:ok)(R:Rep w0 M β h' w)(eg:h' g=h g)(ec:h' c=h c)(ek:h' k=h k) :
  Rep w0 M β (macH h' g c k s v x) w∧g≠c∧g≠k∧c≠k∧0≠g∧0≠c∧0≠k:=by
 obtain⟨l,cf,sf,hg,hgl,hc,hcl,hk,hkl,n1,n2,n3⟩:=mac_val hp hok
 have z:∀{j:Nat} {b:HB},h' j=b→b.mine=true→0≠j:=fun {j b} hj hb e=>by
  subst e;rw[R.nil0]at hj;subst hj;cases hb
 have z1:=z (eg.trans hg) rfl
 have z2:=z (ec.trans hc) rfl
 have z3:=z (ek.trans hk) rfl
 have hnn:(macH h' g c k s v x) 0=.gone:=by rw[macH_o z1 z2 z3];exact R.nil0
 refine⟨R.less (fun i=>?_) hnn (fun i=>?_),n1,n2,n3,z1,z2,z3⟩
 ·by_cases e1:i=g
  ·subst e1
   rw[macH_g n1 n2,eg,hg]
   exact .val hgl (fun n k f e=>by cases e) (fun n k f e=>by cases e)
  ·by_cases e2:i=c
   ·subst e2
    rw[macH_c n3,ec,hc]
    exact .val (fun β=>arrCl (hcl β)) (fun n k f e=>by injection e with e1 e2 e3;subst e1 e2;exact⟨_,rfl⟩) (fun n k f e=>by injection e with e1 e2 e3;subst e1 e2;exact⟨_,rfl⟩)
   ·by_cases e3:i=k
    ·subst e3
     rw[macH_k,ek,hk]
     exact .val (fun β=>arrCl (hkl β)) (fun n k f e=>by injection e with e1 e2 e3;subst e1 e2;exact⟨_,rfl⟩) (fun n k f e=>by injection e with e1 e2 e3;subst e1 e2;exact⟨_,rfl⟩)
    ·rw[macH_o e1 e2 e3];exact .same _
 ·by_cases e1:i=g
  ·subst e1
   rw[macH_g n1 n2]
   exact mB_st (by rw[macH_c n3];rfl) (by rw[macH_k];rfl)
  ·by_cases e2:i=c
   ·subst e2
    rw[macH_c n3];exact cB_st
   ·by_cases e3:i=k
    ·subst e3
     rw[macH_k];exact sB_st
    ·rw[macH_o e1 e2 e3]
     exact HB.stable_more (R.st i) fun j hj=>macH_born hj
end
abbrev MF:=List SV→Sta→Evi→Ins→Option (Prop×(Nat→SV)×Sta×Ins×Bool)
def mS (F:MF):yn_:=fun args h m=>match args with
 | .ptr g []::ar=>match macP h g with
  | some (s,v,x,c,k,ok)=>match F ar s v x with
   | some (cond,val,s',x',mv)=>some (ok∧cond,val c,[g,c,k],bif mv then [(g,mB s' v x' c m),(c,cB s'),(k,.gone),(m,sB s')] else [(g,mB s' v x' c k),(c,cB s'),(k,sB s')])
   | none=>none
  | none=>none
 | _=>none
theorem inj4 {g c k:Nat}{a b d:HB}(n1:g≠c)(n2:g≠k)(n3:c≠k):∀i j,i < [HB.gone,a,b,d].length→j < [HB.gone,a,b,d].length→i≠j→(hp [HB.gone,a,b,d] i).mine=true→(hp [HB.gone,a,b,d] j).mine=true∨(hp [HB.gone,a,b,d] j).isRo=true→[0,g,c,k].getD i 0≠[0,g,c,k].getD j 0:=by
 intro i j hi hj hne hmi hmj
 simp only[List.length_cons,List.length_nil]at hi hj
 have hi0:i≠0:=by rintro rfl;cases hmi
 have hj0:j≠0:=by
  rintro rfl
  rcases hmj with h|h<;>cases h
 rcases i with _|_|_|_|i
 ·exact absurd rfl hi0
 all_goals rcases j with _|_|_|_|j
 all_goals first|exact absurd rfl hj0|exact absurd rfl hne |(simp only[List.getD_cons_succ,List.getD_cons_zero];first|exact n1|exact n2|exact n3|exact n1.symm|exact n2.symm|exact n3.symm)|omega
theorem mS_ok {f:FuncId}{F:MF}(hf:named Tryz.prog f=true)
  (H:∀ar s v x cond val s' x' mv,F ar s v x=some (cond,val,s',x',mv)→cond→(∀ρ,renL ρ ar=ar)∧(∀h,ze_ h ar)∧(∀ρ : Nat→Nat,ρ 0=0→(val 2).ren ρ = val (ρ 2))∧(∀h:HM,(h 0).born=true→(h 2).born=true→zc_ h (val 2)) ∧
   zs_ Tryz.prog f (.ptr 1 []::ar) [.gone,mB s v x 2 3,cB s,sB s] (val 2) (bif mv then [.gone,mB s' v x' 2 4,cB s',.gone,sB s'] else [.gone,mB s' v x' 2 3,cB s',sB s'])):zi_ Tryz.prog f (mS F):=by
 refine⟨zg_ hf,fun args h m c v rd wr hs hm hc w0 M β h' w R hrd hwr hst=>?_⟩
 unfold mS at hs
 split at hs
 ·rename_i g ar
  split at hs
  ·rename_i s v x c k ok hmp
   split at hs
   ·rename_i cond val s' x' mv hF
    simp only[Option.some.injEq,Prod.mk.injEq]at hs
    obtain⟨rfl,rfl,rfl,rfl⟩:=hs
    obtain⟨hok,hcond⟩:=hc
    obtain⟨q1,q2,q3,q4,hl⟩:=H ar s v x _ _ _ _ _ hF hcond
    obtain⟨R1,n1,n2,n3,z1,z2,z3⟩:=mac_canon hmp hok R (hrd g (by simp)) (hrd c (by simp)) (hrd k (by simp))
    have hfit:FitL (wd_ [0,g,c,k] m) (macH h' g c k s v x) [.gone,mB s v x 2 3,cB s,sB s] [0,g,c,k]:=by
     refine⟨.gone ?_,?_,?_,?_,trivial⟩
     ·rw[R1.nil0];rfl
     ·rw[macH_g n1 n2]
      have e:mB s v x c k=.own 186 ((macS s v x 2 3).ren (wd_ [0,g,c,k] m)) true:=by rw[macS_ren];rfl
      rw[e];exact .own
     ·rw[macH_c n3]
      exact .own (v:=.arr s.cells.length 1 (zp_ s.cells))
     ·rw[macH_k]
      have e:sB s=(sB s).ren (wd_ [0,g,c,k] m):=(sB_ren _ _).symm
      rw[e];exact .own (v:=.arr s.sends.length 3 (zo_ s.sends))
    have hargs:renL (wd_ [0,g,c,k] m) (.ptr 1 []::ar)=.ptr g []::ar:=by
     simp only[renL,SV.ren,q1];rfl
    have hval:(val 2).ren (wd_ [0,g,c,k] m)=val c:=q3 _ rfl
    have hst0:xo_ (hp [.gone,mB s v x 2 3,cB s,sB s]) [.gone,mB s v x 2 3,cB s,sB s]:=⟨trivial,mB_st rfl rfl,cB_st,sB_st,trivial⟩
    cases mv with
    | false=>
     have C:=callRW (h:=h) (m:=m) [0,g,c,k] hl R1 rfl (by simp) rfl rfl hfit (inj4 n1 n2 n3) hm (fun p hp=>by cases hp) (by simp) rfl hst0 ⟨rfl,q2 _⟩
      ⟨trivial,mB_st rfl rfl,cB_st,sB_st,trivial⟩ (q4 _ rfl rfl)
     rw[hargs]at C
     have hw:wrs (macH h' g c k s v x) (oldB (wd_ [0,g,c,k] m) [.gone,mB s v x 2 3,cB s,sB s] [.gone,mB s' v x' 2 3,cB s',sB s'] [0,g,c,k]++newB (wd_ [0,g,c,k] m) m ([HB.gone,mB s' v x' 2 3,cB s',sB s'].drop 4))=wrs h' [(g,mB s' v x' c k),(c,cB s'),(k,sB s')]:=by
      simp only[oldB,newB,mB_ren,cB_ren,sB_ren,List.drop,List.append_nil]
      funext i
      show upd (upd (upd (macH h' g c k s v x) g (mB s' v x' c k)) c (cB s')) k (sB s') i=upd (upd (upd h' g (mB s' v x' c k)) c (cB s')) k (sB s') i
      unfold macH Vm.upd
      split
      ·rfl
      ·split
       ·rfl
       ·split<;>rfl
     refine C.mono fun e w' ⟨β',g1,g2,g3,g4⟩=>⟨β',fun i hi=>g1 i (macH_born hi),?_,?_,?_⟩
     ·rw[cond_false,←hw];exact g2
     ·rw[cond_false,←hval,←hw];exact g3
     ·rw[←hval];exact g4
    | true=>
     have hmd:h m=.dead:=hm m (Nat.le_refl _)
     have hm':h' m=.dead:=(hwr (m,sB s') (by simp)).trans hmd
     have mg:m≠g:=by rintro rfl;have:=mac_val hmp hok;obtain⟨l,cf,sf,e,_⟩:=this;rw[hmd]at e;cases e
     have mc:m≠c:=by rintro rfl;have:=mac_val hmp hok;obtain⟨l,cf,sf,_,_,e,_⟩:=this;rw[hmd]at e;cases e
     have mk:m≠k:=by rintro rfl;have:=mac_val hmp hok;obtain⟨l,cf,sf,_,_,_,_,e,_⟩:=this;rw[hmd]at e;cases e
     have C := callRW (h := h) (m := m) [0, g, c, k] hl R1 rfl (by simp) rfl rfl hfit (inj4 n1 n2 n3) hm (fun p hp=>by
       simp only[newB,List.drop,cond_true,List.length_cons,List.length_nil,List.mem_cons,List.not_mem_nil,or_false]at hp
       subst hp
       show macH h' g c k s v x m=h m
       rw[macH_o mg mc mk,hm',hmd]) (by simp) rfl hst0 ⟨rfl,q2 _⟩
      ⟨trivial,mB_st rfl rfl,cB_st,trivial,sB_st,trivial⟩ (q4 _ rfl rfl)
     rw[hargs]at C
     have hw:wrs (macH h' g c k s v x) (oldB (wd_ [0,g,c,k] m) [.gone,mB s v x 2 3,cB s,sB s] [.gone,mB s' v x' 2 4,cB s',.gone,sB s'] [0,g,c,k]++newB (wd_ [0,g,c,k] m) m ([HB.gone,mB s' v x' 2 4,cB s',.gone,sB s'].drop 4))=wrs h' [(g,mB s' v x' c m),(c,cB s'),(k,.gone),(m,sB s')]:=by
      have e4:wd_ [0,g,c,k] m 4=m:=by simp[wd_]
      simp only[oldB,newB,mB_ren,cB_ren,sB_ren,List.drop,e4]
      funext i
      show upd (upd (upd (upd (macH h' g c k s v x) g (mB s' v x' c m)) c (cB s')) k .gone) m (sB s') i=upd (upd (upd (upd h' g (mB s' v x' c m)) c (cB s')) k .gone) m (sB s') i
      unfold macH Vm.upd
      split
      ·rfl
      ·split
       ·rfl
       ·split
        ·rfl
        ·split<;>rfl
     refine C.mono fun e w' ⟨β',g1,g2,g3,g4⟩=>⟨β',fun i hi=>g1 i (macH_born hi),?_,?_,?_⟩
     ·rw[cond_true,←hw];exact g2
     ·rw[cond_true,←hval,←hw];exact g3
     ·rw[←hval];exact g4
   ·cases hs
  ·cases hs
 ·cases hs
abbrev RF:=Sta→Evi→Ins→Option (Prop×SV)
def rS (F:RF):yn_:=fun args h m=>match args with
 | [.ptr g []]=>match macP h g with
  | some (s,v,x,c,k,ok)=>match F s v x with
   | some (cond,val)=>some (ok∧cond,val,[g,c,k],[])
   | none=>none
  | none=>none
 | _=>none
theorem rS_ok {f:FuncId}{F:RF}(hf:named Tryz.prog f=true)
  (H:∀s v x cond val,F s v x=some (cond,val)→cond→(∀ρ,val.ren ρ = val)∧(∀h:HM,zc_ h val) ∧
   zs_ Tryz.prog f [.ptr 1 []] [.gone,.ro (macS s v x 2 3),.gone,.gone] val [.gone,.gone,.gone,.gone]):zi_ Tryz.prog f (rS F):=by
 refine⟨zg_ hf,fun args h m c v rd wr hs hm hc w0 M β h' w R hrd hwr hst=>?_⟩
 unfold rS at hs
 split at hs
 ·rename_i g
  split at hs
  ·rename_i s v x c k ok hmp
   split at hs
   ·rename_i cond val hF
    simp only[Option.some.injEq,Prod.mk.injEq]at hs
    obtain⟨rfl,rfl,rfl,rfl⟩:=hs
    obtain⟨hok,hcond⟩:=hc
    obtain⟨q1,q2,hl⟩:=H s v x _ _ hF hcond
    obtain⟨l,cf,sf,hg,hgl,hcc,_,hk,_⟩:=mac_val hmp hok
    have hfit:FitL (wd_ [0,g,c,k] m) h' [.gone,.ro (macS s v x 2 3),.gone,.gone] [0,g,c,k]:=by
     refine⟨.gone ?_,.ro (u:=.agg l) (by rw[hrd g (by simp),hg];rfl) (fun β=>by rw[macS_ren];exact hgl β) (fun n k f e=>by rw[macS_ren]at e;cases e),.gone (by rw[hrd c (by simp),hcc];rfl),.gone (by rw[hrd k (by simp),hk];rfl),trivial⟩
     rw[R.nil0];rfl
    have C:=callG (h:=h) (m:=m) [0,g,c,k] hl R rfl (by simp) rfl rfl rfl hfit hm (fun p hp=>by cases hp) (by simp)
     (by simp[xo_,HB.stable,macS,stS,evS,yu_,zc_,ze_,hp,HB.born]) ⟨rfl,trivial⟩ trivial (q2 _)
    refine C.mono fun e w' ⟨β',g1,g2,g3,g4⟩=>⟨β',g1,g2,q2 _,by rw[←q1 (wd_ [0,g,c,k] m)];exact g4⟩
   ·cases hs
  ·cases hs
 ·cases hs
end Go.Proofs.YtjliakjbdcplcaaGreat.Vm
end
section
namespace Go.Proofs.YtjliakjbdcplcaaGreat.Vm
open Go.RowKit
def regsB (r q:Nat→Int):Bool:=r 0 == q 0 && (r 1 == q 1 && (r 2 == q 2 && (r 3 == q 3 && (r 4 == q 4 && (r 5 == q 5 && (r 6 == q 6 && r 7 == q 7))))))
def sameB (a b:Sta):Bool:=a.at_ == b.at_ && (a.ended == b.ended && (regsB a.regs b.regs && (a.cells == b.cells && (a.draws == b.draws && decide (a.sends=b.sends)))))
def cR18:FuncId→Option yn_:=y9_ []
theorem cR18_ok:∀f S,cR18 f=some S→zi_ Tryz.prog f S:=fun f S h=>by cases h
theorem regsB_iff {f g:Nat→Int}:regsB f g=true↔f 0=g 0∧f 1=g 1∧f 2=g 2∧f 3=g 3∧f 4=g 4∧f 5=g 5∧f 6=g 6∧f 7=g 7:=by
 unfold regsB
 simp
theorem rsame_lit (s t:Sta)(p1 p2 p3 p4:Nat)(hm:s.cells.length≤1000000)(hn:s.sends.length≤1000000):zs_ Tryz.prog 41
    [.agg [.int .i64 s.at_,.bool s.ended,.arr 8 1 (fun q=>.int .i64 (s.regs q)),.sl 1 2 [] 1 0 s.cells.length (some p1),.int .i64 s.draws,.sl 3 4 [] 3 0 s.sends.length (some p2)],
     .agg [.int .i64 t.at_,.bool t.ended,.arr 8 1 (fun q=>.int .i64 (t.regs q)),.sl 5 6 [] 1 0 t.cells.length (some p3),.int .i64 t.draws,.sl 7 8 [] 3 0 t.sends.length (some p4)]]
    [.gone,.gone,.ro (.arr s.cells.length 1 (zp_ s.cells)),.gone,.ro (.arr s.sends.length 3 (zo_ s.sends)),.gone,.ro (.arr t.cells.length 1 (zp_ t.cells)),.gone,.ro (.arr t.sends.length 3 (zo_ t.sends))] (.bool (sameB s t)) [.gone]:=by
  refine zf_ (fn:=Tryz.f41) 9 87 0 rfl rfl rfl rfl rfl u2_ rfl fun w0 M E hro=>?_
  obtain⟨a,e,r,c,d,x⟩:=s
  obtain⟨a',e',r',c',d',x'⟩:=t
  dsimp only at hm hn hro ⊢
  by_cases H:a=a'∧e=e'∧regsB r r'=true∧d=d'∧c.length=c'.length∧x.length=x'.length
  · obtain⟨h1,h2,h3,h4,h5,h6⟩:=H
    obtain⟨r0,r1,r2,r3,r4,r5,r6,r7⟩:=regsB_iff.1 h3
    subst h1 h2 h4
    rw[h5,h6]at hro
    have hsame:∀b,(b=true↔c=c'∧x=x')→b=sameB ⟨a,e,r,c,d,x⟩ ⟨a,e,r',c',d,x'⟩:=fun b hb=>by
      rw[Bool.eq_iff_iff,hb]
      simp[sameB,h3]
    repeat' (first|refine Ctl.h ?_ |((with_reducible intro hif);first |(focus (cases hif;done)) |((try simp only[JH]at hif);try exact hy_)) |((with_reducible first|apply J22 cR18_ok za_|apply J23 fol cR18_ok za_|apply J24);(·rfl);(· (simp only[push_cast,↓JP,Nat.reduceAdd,Nat.reduceEqDiff,Nat.reduceLT,Nat.reduceMul,Nat.reduceLeDiff,reduceCtorEq,reduceIte,↓JK,h5,h6,r0,r1,r2,r3,r4,r5,r6,r7,eq_self];rfl));(try kernel_rfl);try exact yr_)|fail)
    refine WF.loopAt (fun j=>j≤c'.length∧∀q,q < j→c.getD q 0=c'.getD q 0) (fun j=>[(2,.ptr 9 []),(3,.ptr 10 []),(5,.nat .i64 j)]) (fun j=>[.gone,.gone,.ro (.arr c'.length 1 (zp_ c)),.gone,.ro (.arr x'.length 3 (zo_ x)),.gone,.ro (.arr c'.length 1 (zp_ c')),.gone,.ro (.arr x'.length 3 (zo_ x')),.own 105 (.agg [.int .i64 a,.bool e,.arr 8 1 (fun q=>.int .i64 (r q)),.sl 1 2 [] 1 0 c'.length (some p1),.int .i64 d,.sl 3 4 [] 3 0 x'.length (some p2)]) true,.own 105 (.agg [.int .i64 a,.bool e,.arr 8 1 (fun q=>.int .i64 (r' q)),.sl 5 6 [] 1 0 c'.length (some p3),.int .i64 d,.sl 7 8 [] 3 0 x'.length (some p4)]) true]) (fun j=>c'.length - j) 0 ⟨Nat.zero_le _,fun q hq=>absurd hq (Nat.not_lt_zero q)⟩ ?_ ?_ rfl ?_ ?_ rfl ?_
    · exact we_
    · exact k7_
    · exact k8_
    · exact k8_
    rintro j ⟨hj,heq⟩
    repeat' (first|refine Ctl.h ?_ |((with_reducible intro hif);first |(focus (cases hif;done)) |((try simp only[JH]at hif);try exact hy_)) |((with_reducible first|apply J22 cR18_ok za_|apply J23 fol cR18_ok za_|apply J24);(·rfl);(· (simp only[push_cast,↓JP,Nat.reduceAdd,Nat.reduceEqDiff,Nat.reduceLT,Nat.reduceMul,Nat.reduceLeDiff,reduceCtorEq,reduceIte,↓JK,h5,h6,r0,r1,r2,r3,r4,r5,r6,r7,eq_self,inN];rfl));(try kernel_rfl);try exact k14_)|fail)
    · have hne:c≠c':=fun e=>hif (by rw[e])
      apply At.endsRet za_ (fn:=Tryz.f41) (rs:=[.tmp 4]) Anc.refl hro (lb_ rfl) rfl
      · exact yl_
      · exact k6_
      · exact k7_
      · rfl
      · exact k8_
      · exact k9_
      · rw[←hsame false (by simp[hne])];exact fun β=>rfl
      · exact k8_
    · have hjl:j < c'.length:=by assumption
      refine At.next (j+1) ?_ ?_ ?_ rfl ?_ ?_ rfl
      · refine⟨⟨by omega,fun q hq'=>?_⟩,by omega⟩;by_cases e:q=j;(rw[e];exact hif);exact heq q (by omega)
      · exact we_
      · exact k7_
      · exact k8_
      · exact k8_
    · have hjn:j=c'.length:=by omega
      have hcc:c=c':=ext_getD 0 h5 (fun q hq=>heq q (by omega))
      refine WF.loopAt (fun k=>k≤x'.length∧∀q,q < k→x.getD q ⟨0,0,0⟩=x'.getD q ⟨0,0,0⟩) (fun k=>[(2,.ptr 9 []),(3,.ptr 10 []),(6,.nat .i64 k)]) (fun k=>[.gone,.gone,.ro (.arr c'.length 1 (zp_ c)),.gone,.ro (.arr x'.length 3 (zo_ x)),.gone,.ro (.arr c'.length 1 (zp_ c')),.gone,.ro (.arr x'.length 3 (zo_ x')),.own 105 (.agg [.int .i64 a,.bool e,.arr 8 1 (fun q=>.int .i64 (r q)),.sl 1 2 [] 1 0 c'.length (some p1),.int .i64 d,.sl 3 4 [] 3 0 x'.length (some p2)]) true,.own 105 (.agg [.int .i64 a,.bool e,.arr 8 1 (fun q=>.int .i64 (r' q)),.sl 5 6 [] 1 0 c'.length (some p3),.int .i64 d,.sl 7 8 [] 3 0 x'.length (some p4)]) true]) (fun k=>x'.length - k) 0 ⟨Nat.zero_le _,fun q hq=>absurd hq (Nat.not_lt_zero q)⟩ ?_ ?_ rfl ?_ ?_ rfl ?_
      · exact we_
      · exact k7_
      · exact k8_
      · exact k8_
      rintro k ⟨hk,hxq⟩
      repeat' (first|refine Ctl.h ?_ |((with_reducible intro hif);first |(focus (cases hif;done)) |((try simp only[JH]at hif);try exact hy_)) |((with_reducible first|apply J22 cR18_ok za_|apply J23 fol cR18_ok za_|apply J24);(·rfl);(· (simp only[push_cast,↓JP,Nat.reduceAdd,Nat.reduceEqDiff,Nat.reduceLT,Nat.reduceMul,Nat.reduceLeDiff,reduceCtorEq,reduceIte,↓JK,h5,h6,r0,r1,r2,r3,r4,r5,r6,r7,eq_self,inN,sndS];rfl));(try kernel_rfl);try exact k14_)|fail)
      · have hne:x≠x':=by
          rintro rfl
          simp at hif
        apply At.endsRet za_ (fn:=Tryz.f41) (rs:=[.tmp 4]) Anc.refl hro (lb_ rfl) rfl
        · exact yl_
        · exact k6_
        · exact k7_
        · rfl
        · exact k8_
        · exact k9_
        · rw[←hsame false (by simp[hne])];exact fun β=>rfl
        · exact k8_
      · have hq:x.getD k ⟨0,0,0⟩=x'.getD k ⟨0,0,0⟩:=snd_ext (of_decide_eq_true hif.1) (of_decide_eq_true hif.2.1) (of_decide_eq_true hif.2.2)
        have hkl:k < x'.length:=by assumption
        refine At.next (k+1) ?_ ?_ ?_ rfl ?_ ?_ rfl
        · refine⟨⟨by omega,fun q hq'=>?_⟩,by omega⟩;by_cases e:q=k;(rw[e];exact hq);exact hxq q (by omega)
        · exact we_
        · exact k7_
        · exact k8_
        · exact k8_
      · have hkn:k=x'.length:=by omega
        have hxx:x=x':=ext_getD ⟨0,0,0⟩ h6 (fun q hq=>hxq q (by omega))
        apply At.endsRet za_ (fn:=Tryz.f41) (rs:=[.tmp 4]) Anc.refl hro (lb_ rfl) rfl
        · exact yl_
        · exact k6_
        · exact k7_
        · rfl
        · exact k8_
        · exact k9_
        · rw[←hsame true (by simp[hcc,hxx])];exact fun β=>rfl
        · exact k8_
  · have hF:sameB ⟨a,e,r,c,d,x⟩ ⟨a',e',r',c',d',x'⟩=false:=by
      rw[Bool.eq_false_iff]
      intro hs
      simp only[sameB,Bool.and_eq_true,beq_iff_eq,decide_eq_true_eq]at hs
      obtain⟨q1,q2,q3,q4,q5,q6⟩:=hs
      exact H ⟨q1,q2,q3,q5,by rw[q4],by rw[q6]⟩
    rw[hF]
    repeat' (first|refine Ctl.h ?_ |((with_reducible intro hif);first |(focus (cases hif;done)) |((try simp only[JH]at hif);try exact hy_)) |((with_reducible first|apply J22 cR18_ok za_|apply J23 fol cR18_ok za_|apply J24);(·rfl);(· (simp only[push_cast,↓JP,Nat.reduceAdd,Nat.reduceEqDiff,Nat.reduceLT,Nat.reduceMul,Nat.reduceLeDiff,reduceCtorEq,reduceIte,↓JK,eq_self];rfl));(try kernel_rfl);try exact yr_)|fail)
    · apply At.endsRet za_ (fn:=Tryz.f41) (rs:=[.tmp 4]) Anc.refl hro (lb_ rfl) rfl
      · exact yl_
      · exact k6_
      · exact k7_
      · rfl
      · exact k8_
      · exact k9_
      · exact fun β=>rfl
      · exact k8_
    · exfalso
      apply H
      have e0:=hif
      simp only[Bool.or_eq_false_iff,Bool.not_eq_false',decide_eq_true_eq,Bool.and_eq_true]at e0
      obtain⟨⟨⟨⟨⟨q1,q2⟩,⟨⟨⟨⟨⟨⟨⟨u0,u1⟩,u2⟩,u3⟩,u4⟩,u5⟩,u6⟩,u7⟩⟩,q4⟩,q5⟩,q6⟩:=e0
      exact⟨q1,eq_of_beq q2,regsB_iff.2 ⟨of_decide_eq_true u0,of_decide_eq_true u1,of_decide_eq_true u2,of_decide_eq_true u3,of_decide_eq_true u4,of_decide_eq_true u5,of_decide_eq_true u6,of_decide_eq_true u7⟩,q4,q5,q6⟩
def wg_:yn_:=fun args h m=>match args with
 | [.agg [v1,.bool v2,.arr 8 1 v3,v4,v5,v6],.agg [v7,.bool v8,.arr 8 1 v9,v10,v11,v12]]=>match xm_ h 1 (.tup []) v4,xm_ h 3 (.tup []) v6,xm_ h 1 (.tup []) v10,xm_ h 3 (.tup []) v12 with
  | some (c4,n4,f4,r4),some (c6,n6,f6,r6),some (c10,n10,f10,r10),some (c12,n12,f12,r12)=>bif isI .i64 v1 && isI .i64 v5 && isI .i64 v7 && isI .i64 v11 then some (c4∧c6∧c10∧c12∧(∀q,q < n4→isI .i64 (f4 q)=true)∧(∀q,q < n6→isSnd (f6 q)=true)∧(∀q,q < n10→isI .i64 (f10 q)=true)∧(∀q,q < n12→isSnd (f12 q)=true)∧(∀q,q < 8→isI .i64 (v3 q)=true)∧(∀q,q < 8→isI .i64 (v9 q)=true)∧(n4≤1000000)∧(n6≤1000000),.bool (sameB ⟨(iOf v1),v2,(fun q=>iOf (v3 q)),(ls iOf n4 f4),(iOf v5),(ls zw_ n6 f6)⟩ ⟨(iOf v7),v8,(fun q=>iOf (v9 q)),(ls iOf n10 f10),(iOf v11),(ls zw_ n12 f12)⟩),r4++r6++r10++r12,[])else none
  | _,_,_,_=>none
 | _=>none
theorem sRSame_ok:zi_ Tryz.prog 41 wg_:=by
 refine⟨zg_ (by kernel_rfl),fun args h m c v rd wr hs hm hc w0 M β h' w R hrd hwr hst=>?_⟩
 unfold wg_ at hs
 split at hs
 ·rename_i v1 v2 v3 v4 v5 v6 v7 v8 v9 v10 v11 v12
  split at hs
  ·rename_i c4 n4 f4 r4 c6 n6 f6 r6 c10 n10 f10 r10 c12 n12 f12 r12 a4 a6 a10 a12
   obtain⟨hb,hs⟩:=zl_ hs
   simp only[Option.some.injEq,Prod.mk.injEq]at hs
   obtain⟨rfl,rfl,rfl,rfl⟩:=hs
   simp only[Bool.and_eq_true]at hb
   obtain⟨⟨⟨b1,b5⟩,b7⟩,b11⟩:=hb
   obtain⟨k4,k6,k10,k12,g4,g6,g10,g12,g3,g9,y1,y2⟩:=hc
   obtain⟨A4,p4,d4,e4,t4⟩:=zh_ R a4 k4 (fun i hi=>hrd i (List.mem_append_left _ (List.mem_append_left _ (List.mem_append_left _ hi)))) (by omega)
   obtain⟨A6,p6,d6,e6,t6⟩:=zh_ R a6 k6 (fun i hi=>hrd i (List.mem_append_left _ (List.mem_append_left _ (List.mem_append_right _ hi)))) (by omega)
   obtain⟨A10,p10,d10,e10,t10⟩:=zh_ R a10 k10 (fun i hi=>hrd i (List.mem_append_left _ (List.mem_append_right _ hi))) (by omega)
   obtain⟨A12,p12,d12,e12,t12⟩:=zh_ R a12 k12 (fun i hi=>hrd i (List.mem_append_right _ hi)) (by omega)
   refine yh_ (views:=[⟨1,(ls iOf n4 f4).length,zp_ (ls iOf n4 f4),A4,p4⟩,⟨3,(ls zw_ n6 f6).length,zo_ (ls zw_ n6 f6),A6,p6⟩,⟨1,(ls iOf n10 f10).length,zp_ (ls iOf n10 f10),A10,p10⟩,⟨3,(ls zw_ n12 f12).length,zo_ (ls zw_ n12 f12),A12,p12⟩]) (rsame_lit ⟨(iOf v1),v2,(fun q=>iOf (v3 q)),(ls iOf n4 f4),(iOf v5),(ls zw_ n6 f6)⟩ ⟨(iOf v7),v8,(fun q=>iOf (v9 q)),(ls iOf n10 f10),(iOf v11),(ls zw_ n12 f12)⟩ p4 p6 p10 p12 (by rw[zb_];exact y1) (by rw[zb_];exact y2)) ?_ R hm hwr ?_ ?_ ?_
   ·exact d29_
   ·exact d30_
   ·exact k8_
   ·exact k8_
  ·cases hs
 ·cases hs
end Go.Proofs.YtjliakjbdcplcaaGreat.Vm
end
end
section
namespace Go.Proofs.YtjliakjbdcplcaaGreat.Vm
open Go.RowKit
def bI (b:Bool):Int:=if b then 1 else 0
def bl (x:BitVec 64):List Int:=(List.range 64).map fun i=>bI (x.getLsbD i)
theorem yi_ (x:BitVec 64):(bl x).length=64:=by simp[bl]
theorem zk_ {x:BitVec 64}{i:Nat}(h:i < 64):(bl x).getD i 0=bI (x.getLsbD i):=by simp[bl,h]
def vbN (l:List Int):Nat→BitVec 64
 | 0=>0
 | n+1=>vbN l n |||(if l.getD n 0=1 then BitVec.twoPow 64 n else 0#64)
theorem vbN_get (l:List Int):∀n j,j < 64→(vbN l n).getLsbD j=(decide (j < n) && decide (l.getD j 0=1))
 | 0,j,_=>by simp[vbN]
 | n+1,j,hj=>by
  rw[vbN,BitVec.getLsbD_or,vbN_get l n j hj]
  by_cases h:l.getD n 0=1
  ·rw[if_pos h,BitVec.getLsbD_twoPow]
   by_cases e:n=j
   ·subst e;simp[h,hj]
    simpa using h
   ·have:(j < n+1)↔(j < n):=by omega
    simp[e,this]
  ·rw[if_neg h]
   by_cases e:n=j
   ·subst e
    have h':decide (l.getD n 0=1)=false:=decide_eq_false h
    simp only[h',Bool.and_false,Bool.false_or]
    simp
   ·have:(j < n+1)↔(j < n):=by omega
    simp[this]
def vb (l:List Int):BitVec 64:=vbN l 64
theorem bI_one (b:Bool):decide (bI b=1)=b:=by cases b<;>rfl
theorem vb_bl (x:BitVec 64):vb (bl x)=x:=by
 apply BitVec.eq_of_getLsbD_eq
 intro i hi
 rw[vb,vbN_get _ _ _ hi,zk_ hi,bI_one]
 simp[hi]
theorem bl_ext {x:BitVec 64}{l:List Int}(hl:l.length=64)(h:∀i,i < 64→l.getD i 0=bI (x.getLsbD i)):l=bl x:=
 ext_getD 0 (by rw[hl,yi_]) fun q hq=>by rw[zk_ (by omega)];exact h q (by omega)
theorem bit_ofInt (a:Int){j:Nat}(hj:j < 64):(BitVec.ofInt 64 a).getLsbD j=decide (a / 2 ^ j % 2=1):=by
 rw[←BitVec.testBit_toNat,Nat.testBit_eq_decide_div_mod_eq,BitVec.toNat_ofInt]
 have hp:(0:Int) < 2 ^ j:=Int.pow_pos (by decide)
 have e64:(2:Int) ^ 64=2 ^ j*(2*2 ^ (63 - j)):=by
  rw[←Int.mul_assoc,Int.mul_comm (2 ^ j) 2,Int.mul_assoc,←Int.pow_add,←Int.pow_succ']
  congr 1
  omega
 have hr0:0≤a % (2:Int) ^ 64:=Int.emod_nonneg _ (by decide)
 have ha:=Int.mul_ediv_add_emod a (2 ^ 64)
 obtain⟨r,hr⟩:∃r,a % (2:Int) ^ 64=r:=⟨_,rfl⟩
 obtain⟨q,hq⟩:∃q,a / (2:Int) ^ 64=q:=⟨_,rfl⟩
 rw[hr,hq]at ha
 rw[hr]at hr0
 have e1:a / 2 ^ j=2*2 ^ (63 - j)*q+r / 2 ^ j:=by
  rw[←ha,e64,Int.mul_assoc,Int.add_comm,Int.add_mul_ediv_left _ _ (by omega),Int.add_comm]
 have e2:a / 2 ^ j % 2=r / 2 ^ j % 2:=by
  rw[e1,Int.mul_assoc,Int.add_comm,Int.add_mul_emod_self_left]
 have e3:((r.toNat / 2 ^ j % 2:Nat):Int)=r / 2 ^ j % 2:=by
  have:(r.toNat:Int)=r:=by omega
  push_cast
  rw[this]
 rw[e2,←e3]
 have:((2 ^ 64:Nat):Int)=(2:Int) ^ 64:=by decide
 rw[this,hr]
 simp only[decide_eq_decide]
 omega
def sumV (x y:BitVec 64)(c:Bool):BitVec 64:=x+y+BitVec.setWidth 64 (BitVec.ofBool c)
theorem sumV_bit {x y:BitVec 64}{c:Bool}{i:Nat}(h:i < 64):bI ((sumV x y c).getLsbD i)=(bI (x.getLsbD i)+bI (y.getLsbD i)+bI (BitVec.carry i x y c)).tmod 2:=by
 unfold sumV
 rw[BitVec.getLsbD_add_add_bool h]
 cases x.getLsbD i<;>cases y.getLsbD i<;>cases BitVec.carry i x y c<;>rfl
theorem carry_next (x y:BitVec 64)(c:Bool)(i:Nat):bI (BitVec.carry (i+1) x y c)=(bI (x.getLsbD i)+bI (y.getLsbD i)+bI (BitVec.carry i x y c)).tdiv 2:=by
 rw[BitVec.carry_succ]
 cases x.getLsbD i<;>cases y.getLsbD i<;>cases BitVec.carry i x y c<;>rfl
theorem carry_zero1 (x y:BitVec 64)(c:Bool):BitVec.carry 0 x y c=c:=BitVec.carry_zero
theorem z8_ (b:Bool):0≤bI b∧bI b≤1:=by cases b<;>decide
theorem Rep.reval {w0 w:World}{M:Nat→Prop}{β : Env}{h:HM}(R:Rep w0 M β h w){i:Nat}{t:TypeId}{v v':SV}{ex:Bool}(hi:h i=.own t v ex)(hcl:v'.cl β = v.cl β)(hst:zc_ h v')(hn:∀n k f,v'≠.arr n k f)(hv:∀n k f,v≠.arr n k f) :
  Rep w0 M β (upd h i (.own t v' ex)) w:=by
 have mine:∀j,(upd h i (.own t v' ex) j).mine=true→(h j).mine=true:=fun j hj=>by
  by_cases e:j=i
  ·subst e;rw[hi];rfl
  ·rwa [yj_ e]at hj
 have born:∀j,(h j).born=true→(upd h i (.own t v' ex) j).born=true:=fun j hj=>by
  by_cases e:j=i
  ·subst e;rw[zy_];rfl
  ·rwa [yj_ e]
 have i0:(0:Nat)≠i:=fun e=>by
  rw[←e,R.nil0]at hi;cases hi
 refine { os:=R.os,tape:=R.tape,output:=R.output,size:=R.size,frame:=R.frame,nil:=R.nil,nil0:=?_,st:=?_,blk:=?_,own:=fun j a hj ha=>R.own j a (mine j hj) ha,ro:=?_,dist:=fun a b x y hab ha hb hx hy=>R.dist a b x y hab (mine a ha) (mine b hb) hx hy,lt:=fun j a hj ha=>R.lt j a (mine j hj) ha }
 ·rw[yj_ i0];exact R.nil0
 ·intro j
  by_cases e:j=i
  ·subst e;rw[zy_];exact hst.more born
  ·rw[yj_ e];exact HB.stable_more (R.st j) born
 ·intro j
  by_cases e:j=i
  ·subst e
   rw[zy_]
   have:=R.blk j
   rw[hi]at this
   rcases this with ⟨g,cs,h1,h2,⟨tl,h3,h4⟩,h5⟩|⟨h1,h2,k,f,h3⟩
   ·exact .inl ⟨g,cs,h1,h2,⟨tl,by rw[hcl];exact h3,h4⟩,fun n k f e=>absurd e (hn n k f)⟩
   ·exact absurd h3 (hv _ _ _)
  ·rw[yj_ e];exact R.blk j
 ·intro j u a hj
  by_cases e:j=i
  ·subst e;rw[zy_]at hj;cases hj
  ·rw[yj_ e]at hj;exact R.ro j u a hj
theorem At.nilIn {w0:World}{M:Nat→Prop}{E:Env}{n0 N:Nat}{D:List Deferred}{φ : Fr}{L L2:List HB}{K:Act→World→Prop}(ty k:Nat)(f:Nat→SV)(i t:Nat)(v v':SV)(ex:Bool)(hf:∀(h:HM) (q:Nat),zc_ h (f q))
  (hi:hp L i=.own t v ex) (hcl:∀β : Env,β 0=(none,0)→β L.length=(none,0)→v'.cl β = v.cl β) (hst:∀h:HM,(∀j,j≤L.length→(h j).born=true)→zc_ h v') (hbn:bornTo L.length L=true) (hn:∀n k f,v'≠.arr n k f) (hv:∀n k f,v≠.arr n k f)
  (hL2:L2=setH (L++[.own ty (.arr 0 k f) false]) i (.own t v' ex)) (h:At w0 M E n0 N D φ L2 K):At w0 M E n0 N D φ L K:=fun a w hS=>by
 obtain⟨⟨β,hE,R,F⟩,hbn',hsz,hd⟩:=hS
 have hm:hp L L.length=.dead:=xn_ (Nat.le_refl _)
 have R1:=nothing R (e:=ty) (k:=k) (g:=f) hm (fun q=>hf _ q)
 have hag:∀i,(hp L i).born=true→β i=setE β L.length (none,0) i:=ym_ hm
 have hborn:∀i,(hp L i).born=true→(upd (hp L) L.length (.own ty (.arr 0 k f) false) i).born=true:=fun i hi=>by
  unfold Vm.upd;split
  ·rfl
  ·exact hi
 have hlt:i < L.length:=by
  rcases Nat.lt_or_ge i L.length with h|h
  ·exact h
  ·rw[xn_ h]at hi;cases hi
 have hi1:upd (hp L) L.length (.own ty (.arr 0 k f) false) i=.own t v ex:=by rw[yj_ (by omega)];exact hi
 have ball:∀j,j≤L.length→(upd (hp L) L.length (.own ty (.arr 0 k f) false) j).born=true:=fun j hj=>by
  by_cases e:j=L.length
  ·subst e;rw[zy_];rfl
  ·rw[yj_ e]
   simp only[bornTo,List.all_eq_true]at hbn
   exact hbn j (List.mem_range.2 (by omega))
 have R2:=R1.reval hi1 (hcl _ R1.nil (yg_ _ _ _)) (hst _ ball) hn hv
 have e2:hp L2=upd (upd (hp L) L.length (.own ty (.arr 0 k f) false)) i (.own t v' ex):=by
  rw[hL2,hp_setH,hp_append1]
 have hborn2:∀j,(upd (hp L) L.length (.own ty (.arr 0 k f) false) j).born=true→(hp L2 j).born=true:=fun j hj=>by
  rw[e2]
  by_cases e:j=i
  ·subst e;rw[zy_];rfl
  ·rwa [yj_ e]
 refine h a w ⟨⟨setE β L.length (none,0),fun j hj=>(hag j (hbn' j hj)).symm.trans (hE j hj),by rw[e2];exact R2,fun u v hu=>?_⟩,fun j hj=>hborn2 j (hborn j (hbn' j hj)),hsz,hd⟩
 obtain⟨k1,k2⟩:=F u v hu
 exact⟨(k1.more hborn).more hborn2,by rw[k2];exact k1.den hag⟩
theorem WF.nilIn {P:Program}{w0:World}{M:Nat→Prop}{E:Env}{n0 N n:Nat}{D:List Deferred}{φ : Fr}{L L2:List HB}{c:Code}{ro:Option Nat}{Q:Exit→Act→World→Prop}(ty k:Nat)(f:Nat→SV)(i t:Nat)(v v':SV)(ex:Bool)(hf:∀(h:HM) (q:Nat),zc_ h (f q))
  (hi:hp L i=.own t v ex) (hcl:∀β : Env,β 0=(none,0)→β L.length=(none,0)→v'.cl β = v.cl β) (hst:∀h:HM,(∀j,j≤L.length→(h j).born=true)→zc_ h v') (hbn:bornTo L.length L=true) (hn:∀n k f,v'≠.arr n k f) (hv:∀n k f,v≠.arr n k f)
  (hL2:L2=setH (L++[.own ty (.arr 0 k f) false]) i (.own t v' ex)) (h:WF ro n P c w0 M E n0 N D φ L2 Q):WF ro n P c w0 M E n0 N D φ L Q:=At.nilIn ty k f i t v v' ex hf hi hcl hst hbn hn hv hL2 h
def NilF (L:List HB)(φ : Fr):Fr→Prop
 | []=>True
 | p::l=>(∃u,look φ p.1=some u∧(∀β : Env,β 0=(none,0)→β L.length=(none,0)→u.den β = p.2.den β))∧NilF L φ l
theorem nilF_spec {L:List HB}{φ : Fr}:∀{φ2:Fr},NilF L φ φ2→∀p∈φ2,∃u,look φ p.1=some u∧(∀β : Env,β 0=(none,0)→β L.length=(none,0)→u.den β = p.2.den β)
 | [],_,p,hp=>by cases hp
 | q::l,h,p,hp=>by
  rcases List.mem_cons.1 hp with rfl|hp
  ·exact h.1
  ·exact nilF_spec h.2 p hp
theorem At.nilFr {w0:World}{M:Nat→Prop}{E:Env}{n0 N:Nat}{D:List Deferred}{φ φ2:Fr}{L L2:List HB}{K:Act→World→Prop}(ty k:Nat)(f:Nat→SV)(hf:∀(h:HM) (q:Nat),zc_ h (f q))
  (hL2:L2=L++[.own ty (.arr 0 k f) false]) (hφ : NilF L φ φ2) (hst:StableF (hp L2) φ2) (h:At w0 M E n0 N D φ2 L2 K):At w0 M E n0 N D φ L K:=fun a w hS=>by
 subst hL2
 obtain⟨⟨β,hE,R,F⟩,hbn,hsz,hd⟩:=hS
 have hm:hp L L.length=.dead:=xn_ (Nat.le_refl _)
 have R1:=nothing R (e:=ty) (k:=k) (g:=f) hm (fun q=>hf _ q)
 have hag:∀i,(hp L i).born=true→β i=setE β L.length (none,0) i:=ym_ hm
 have hborn:∀i,(hp L i).born=true→(upd (hp L) L.length (.own ty (.arr 0 k f) false) i).born=true:=fun i hi=>by
  unfold Vm.upd;split
  ·rfl
  ·exact hi
 refine h a w ⟨⟨setE β L.length (none,0),fun i hi=>(hag i (hbn i hi)).symm.trans (hE i hi),by rw[hp_append1];exact R1,fun u v hu=>?_⟩,fun i hi=>by rw[hp_append1];exact hborn i (hbn i hi),hsz,hd⟩
 have hmem:=look_mem hu
 obtain⟨x,hx,hden⟩:=nilF_spec hφ _ hmem
 obtain⟨k1,k2⟩:=F u x hx
 refine⟨stableF_spec hst _ hmem,?_⟩
 rw[k2,k1.den hag]
 exact hden _ R1.nil (yg_ _ _ _)
theorem WF.nilFr {P:Program}{w0:World}{M:Nat→Prop}{E:Env}{n0 N n:Nat}{D:List Deferred}{φ φ2:Fr}{L L2:List HB}{c:Code}{ro:Option Nat}{Q:Exit→Act→World→Prop}(ty k:Nat)(f:Nat→SV)(hf:∀(h:HM) (q:Nat),zc_ h (f q))
  (hL2:L2=L++[.own ty (.arr 0 k f) false]) (hφ : NilF L φ φ2) (hst:StableF (hp L2) φ2) (h:WF ro n P c w0 M E n0 N D φ2 L2 Q):WF ro n P c w0 M E n0 N D φ L Q:=At.nilFr ty k f hf hL2 hφ hst h
end Go.Proofs.YtjliakjbdcplcaaGreat.Vm
end

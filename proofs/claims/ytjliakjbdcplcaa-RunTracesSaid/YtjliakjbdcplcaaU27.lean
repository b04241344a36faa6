import Derived.Test.YtjliakjbdcplcaaU1
import Derived.Test.YtjliakjbdcplcaaU10
import Derived.Test.YtjliakjbdcplcaaU11
import Derived.Test.YtjliakjbdcplcaaU12
import Derived.Test.YtjliakjbdcplcaaU17
import Derived.Test.YtjliakjbdcplcaaU26
set_option linter.unusedSimpArgs false
set_option linter.unusedVariables false
set_option maxRecDepth 100000
set_option maxHeartbeats 4000000
section
namespace Go.Proofs.Ytjliakjbdcplcaa.Vm
open Go.RowKit
attribute [local push_cast] eqB eqBL allB prS zt_ i64S xo_ y3_ y2_ y1_ y0_ yz_ xn_ yy_ yx_ yw_ zy_ zv_ zw_ zu_ y5_ y4_ iOf
theorem Trace_rej (P:List Ins)(v:Evi)(t s q o y d f:Int)(cs:List Int)(p1 p2:Nat)(hok:∀x∈P,x.ok)(hn:P.length≤1000000)(hc:cs.length≤1000000)(hE:ropE P v (ya_ y t s cs d) f≠0):yc_ Try.prog 25 [.sl 1 2 [] 5 0 P.length (some p1),.agg [.int .u64 v.seed,.int .i64 v.process,.int .i64 v.ports,.int .i64 v.look,.int .i64 v.now],.agg [.agg [.int .i64 t,.int .i64 s,.int .i64 q],.int .i64 o,.int .i64 y],.sl 3 4 [] 1 0 cs.length (some p2),.int .i64 d,.int .i64 f]
  [.gone,.gone,.ro (.arr P.length 5 (prS P)),.gone,.ro (.arr cs.length 1 (i64S cs))]
  (.tup [.sl 0 0 [] 0 0 0 (some 0),.int .i64 (ropE P v (ya_ y t s cs d) f)]) [.gone,.gone,.gone,.gone,.gone,.own 3 (.arr 0 1 (i64S [])) false]:=by
 obtain⟨s0,hs0⟩:∃s0,ya_ y t s cs d=s0:=⟨_,rfl⟩
 rw[hs0]at hE ⊢
 refine zm_ (fn:=Try.f25) 5 46 0 rfl rfl rfl rfl rfl u8_ rfl fun w0 M E hro=>?_
 refine WF.empty 3 1 (i64S []) (fun _ q=>i64S_stable q) ?_
 repeat' (first|refine Ctl.h ?_ |((with_reducible intro hif);first |(focus (cases hif;done)) |((try simp only[JH]at hif);try exact hy_)) |((with_reducible first|apply J22 cRej_ok za_|apply J23 fol cRej_ok za_|apply J24);(·rfl);(· exact k62_);(try kernel_rfl);try exact k61_)|fail)
 apply At.endsPick [0,1,2,3,4,5] za_ (fn:=Try.f25) (rs:=[.tmp 12,.tmp 13]) Anc.refl hro (lb_ rfl) rfl
 ·exact k5_
 ·exact yq_
 ·rfl
 ·rfl
 ·rfl
 ·exact k24_
 ·rfl
 ·exact k88_
 ·exact k9_
 ·exact fun β=>rfl
 ·exact k88_
theorem Trace_lit (P:List Ins)(v:Evi)(t s q o y d f:Int)(cs:List Int)(p1 p2:Nat)(hok:∀x∈P,x.ok)(hn:P.length≤1000000)(hc:cs.length≤1000000):yc_ Try.prog 25 [.sl 1 2 [] 5 0 P.length (some p1),.agg [.int .u64 v.seed,.int .i64 v.process,.int .i64 v.ports,.int .i64 v.look,.int .i64 v.now],.agg [.agg [.int .i64 t,.int .i64 s,.int .i64 q],.int .i64 o,.int .i64 y],.sl 3 4 [] 1 0 cs.length (some p2),.int .i64 d,.int .i64 f]
  [.gone,.gone,.ro (.arr P.length 5 (prS P)),.gone,.ro (.arr cs.length 1 (i64S cs))]
  (.tup [nilOr (xd_ P v (ya_ y t s cs d) f).tr 5,.int .i64 (xd_ P v (ya_ y t s cs d) f).bad]) [.gone,.gone,.gone,.gone,.gone,.own 3 (.arr (xd_ P v (ya_ y t s cs d) f).tr.length 1 (i64S (xd_ P v (ya_ y t s cs d) f).tr)) false]:=by
 by_cases hE:ropE P v (ya_ y t s cs d) f=0
 ·have e:xd_ P v (ya_ y t s cs d) f=runA P v f.toNat (ya_ y t s cs d) Ins0 [] 0:=by unfold xd_;rw[if_pos hE]
  obtain⟨hP,V⟩:=pg_of hok hE
  rw[e]
  exact Trace_go P v t s q o y d f cs p1 p2 hP V hc hE _ rfl
 ·have e:xd_ P v (ya_ y t s cs d) f=⟨[],0,ropE P v (ya_ y t s cs d) f,zeroSt,Ins0⟩:=by unfold xd_;rw[if_neg hE]
  rw[e]
  exact Trace_rej P v t s q o y d f cs p1 p2 hok hn hc hE
theorem TraceN_lit (P:List Ins)(v:Evi)(t s q o y d f:Int)(cs:List Int)(p1 p2:Nat)(hok:∀x∈P,x.ok)(hn:P.length≤1000000)(hc:cs.length≤1000000)(hD:(xd_ P v (ya_ y t s cs d) f).tr.isEmpty=true):yc_ Try.prog 25 [.sl 1 2 [] 5 0 P.length (some p1),.agg [.int .u64 v.seed,.int .i64 v.process,.int .i64 v.ports,.int .i64 v.look,.int .i64 v.now],.agg [.agg [.int .i64 t,.int .i64 s,.int .i64 q],.int .i64 o,.int .i64 y],.sl 3 4 [] 1 0 cs.length (some p2),.int .i64 d,.int .i64 f]
  [.gone,.gone,.ro (.arr P.length 5 (prS P)),.gone,.ro (.arr cs.length 1 (i64S cs))]
  (.tup [.sl 0 0 [] 0 0 0 (some 0),.int .i64 (xd_ P v (ya_ y t s cs d) f).bad]) [.gone]:=by
 have H:=Trace_lit P v t s q o y d f cs p1 p2 hok hn hc
 rw[nilOr_t hD]at H
 intro w0 M β w R
 refine(H w0 M β w R).mono fun e w' ⟨β',h1,h2,h3,h4⟩=>⟨β',h1,h2.less (fun i=>?_) rfl (fun i=>?_),⟨⟨rfl,rfl⟩,trivial,trivial⟩,h4⟩
 ·rcases i with _|i
  ·exact .same _
  ·exact .dead _
 ·rcases i with _|i<;>trivial
theorem TraceS_lit (P:List Ins)(v:Evi)(t s q o y d f:Int)(cs:List Int)(p1 p2:Nat)(hok:∀x∈P,x.ok)(hn:P.length≤1000000)(hc:cs.length≤1000000)(hD:(xd_ P v (ya_ y t s cs d) f).tr.isEmpty=false):yc_ Try.prog 25 [.sl 1 2 [] 5 0 P.length (some p1),.agg [.int .u64 v.seed,.int .i64 v.process,.int .i64 v.ports,.int .i64 v.look,.int .i64 v.now],.agg [.agg [.int .i64 t,.int .i64 s,.int .i64 q],.int .i64 o,.int .i64 y],.sl 3 4 [] 1 0 cs.length (some p2),.int .i64 d,.int .i64 f]
  [.gone,.gone,.ro (.arr P.length 5 (prS P)),.gone,.ro (.arr cs.length 1 (i64S cs))]
  (.tup [.sl 5 5 [] 1 0 (xd_ P v (ya_ y t s cs d) f).tr.length none,.int .i64 (xd_ P v (ya_ y t s cs d) f).bad]) [.gone,.gone,.gone,.gone,.gone,.own 3 (.arr (xd_ P v (ya_ y t s cs d) f).tr.length 1 (i64S (xd_ P v (ya_ y t s cs d) f).tr)) false]:=by
 have H:=Trace_lit P v t s q o y d f cs p1 p2 hok hn hc
 rwa [nilOr_f hD]at H
def sTrN:yr_:=fun args h m=>match args with
 | [v1,.agg [v2,v3,v4,v5,v6],.agg [.agg [v7,v8,v9],v10,v11],v12,v13,v14]=>match srcV h 5 (.tup []) v1,srcV h 1 (.tup []) v12 with
  | some (c1,n1,f1,r1),some (c12,n12,f12,r12)=>bif isI .u64 v2 && isI .i64 v3 && isI .i64 v4 && isI .i64 v5 && isI .i64 v6 && isI .i64 v7 && isI .i64 v8 && isI .i64 v9 && isI .i64 v10 && isI .i64 v11 && isI .i64 v13 && isI .i64 v14 then some (c1∧c12∧(∀q,q < n1→isIns (f1 q)=true)∧(∀q,q < n12→isI .i64 (f12 q)=true)∧((∀x∈(ls zg_ n1 f1),x.ok))∧(n1≤1000000)∧(n12≤1000000)∧((xd_ (ls zg_ n1 f1) ⟨(iOf v2),(iOf v3),(iOf v4),(iOf v5),(iOf v6)⟩ (ya_ (iOf v11) (iOf v7) (iOf v8) (ls iOf n12 f12) (iOf v13)) (iOf v14)).tr.isEmpty=true),.tup [.sl 0 0 [] 0 0 0 (some 0),.int .i64 (xd_ (ls zg_ n1 f1) ⟨(iOf v2),(iOf v3),(iOf v4),(iOf v5),(iOf v6)⟩ (ya_ (iOf v11) (iOf v7) (iOf v8) (ls iOf n12 f12) (iOf v13)) (iOf v14)).bad],r1++r12,[])else none
  | _,_=>none
 | _=>none
theorem sTrN_ok:zh_ Try.prog 25 sTrN:=by
 refine⟨zf_ (by kernel_rfl),fun args h m c v rd wr hs hm hc w0 M β h' w R hrd hwr hst=>?_⟩
 unfold sTrN at hs
 split at hs
 ·rename_i v1 v2 v3 v4 v5 v6 v7 v8 v9 v10 v11 v12 v13 v14
  split at hs
  ·rename_i c1 n1 f1 r1 c12 n12 f12 r12 a1 a12
   obtain⟨hb,hs⟩:=zj_ hs
   simp only[Option.some.injEq,Prod.mk.injEq]at hs
   obtain⟨rfl,rfl,rfl,rfl⟩:=hs
   simp only[Bool.and_eq_true]at hb
   obtain⟨⟨⟨⟨⟨⟨⟨⟨⟨⟨⟨b2,b3⟩,b4⟩,b5⟩,b6⟩,b7⟩,b8⟩,b9⟩,b10⟩,b11⟩,b13⟩,b14⟩:=hb
   obtain⟨k1,k12,g1,g12,y1,y2,y3,y4⟩:=hc
   obtain⟨A1,p1,d1,e1,t1⟩:=zk_ R a1 k1 (fun i hi=>hrd i (List.mem_append_left _ hi)) (by omega)
   obtain⟨A12,p12,d12,e12,t12⟩:=zk_ R a12 k12 (fun i hi=>hrd i (List.mem_append_right _ hi)) (by omega)
   refine y9_ (views:=[⟨5,(ls zg_ n1 f1).length,prS (ls zg_ n1 f1),A1,p1⟩,⟨1,(ls iOf n12 f12).length,i64S (ls iOf n12 f12),A12,p12⟩]) (TraceN_lit (ls zg_ n1 f1) ⟨(iOf v2),(iOf v3),(iOf v4),(iOf v5),(iOf v6)⟩ (iOf v7) (iOf v8) (iOf v9) (iOf v10) (iOf v11) (iOf v13) (iOf v14) (ls iOf n12 f12) p1 p12 y1 (by rw[zb_];exact y2) (by rw[zb_];exact y3) y4) ?_ R hm hwr ?_ ?_ ?_
   ·exact d21_
   ·exact d22_
   ·exact k88_
   ·exact k88_
  ·cases hs
 ·cases hs
def sTrS:yr_:=fun args h m=>match args with
 | [v1,.agg [v2,v3,v4,v5,v6],.agg [.agg [v7,v8,v9],v10,v11],v12,v13,v14]=>match srcV h 5 (.tup []) v1,srcV h 1 (.tup []) v12 with
  | some (c1,n1,f1,r1),some (c12,n12,f12,r12)=>bif isI .u64 v2 && isI .i64 v3 && isI .i64 v4 && isI .i64 v5 && isI .i64 v6 && isI .i64 v7 && isI .i64 v8 && isI .i64 v9 && isI .i64 v10 && isI .i64 v11 && isI .i64 v13 && isI .i64 v14 then some (c1∧c12∧(∀q,q < n1→isIns (f1 q)=true)∧(∀q,q < n12→isI .i64 (f12 q)=true)∧((∀x∈(ls zg_ n1 f1),x.ok))∧(n1≤1000000)∧(n12≤1000000)∧((xd_ (ls zg_ n1 f1) ⟨(iOf v2),(iOf v3),(iOf v4),(iOf v5),(iOf v6)⟩ (ya_ (iOf v11) (iOf v7) (iOf v8) (ls iOf n12 f12) (iOf v13)) (iOf v14)).tr.isEmpty=false),.tup [.sl m m [] 1 0 (xd_ (ls zg_ n1 f1) ⟨(iOf v2),(iOf v3),(iOf v4),(iOf v5),(iOf v6)⟩ (ya_ (iOf v11) (iOf v7) (iOf v8) (ls iOf n12 f12) (iOf v13)) (iOf v14)).tr.length none,.int .i64 (xd_ (ls zg_ n1 f1) ⟨(iOf v2),(iOf v3),(iOf v4),(iOf v5),(iOf v6)⟩ (ya_ (iOf v11) (iOf v7) (iOf v8) (ls iOf n12 f12) (iOf v13)) (iOf v14)).bad],r1++r12,[(m,.own 3 (.arr (xd_ (ls zg_ n1 f1) ⟨(iOf v2),(iOf v3),(iOf v4),(iOf v5),(iOf v6)⟩ (ya_ (iOf v11) (iOf v7) (iOf v8) (ls iOf n12 f12) (iOf v13)) (iOf v14)).tr.length 1 (i64S (xd_ (ls zg_ n1 f1) ⟨(iOf v2),(iOf v3),(iOf v4),(iOf v5),(iOf v6)⟩ (ya_ (iOf v11) (iOf v7) (iOf v8) (ls iOf n12 f12) (iOf v13)) (iOf v14)).tr)) false)])else none
  | _,_=>none
 | _=>none
theorem sTrS_ok:zh_ Try.prog 25 sTrS:=by
 refine⟨zf_ (by kernel_rfl),fun args h m c v rd wr hs hm hc w0 M β h' w R hrd hwr hst=>?_⟩
 unfold sTrS at hs
 split at hs
 ·rename_i v1 v2 v3 v4 v5 v6 v7 v8 v9 v10 v11 v12 v13 v14
  split at hs
  ·rename_i c1 n1 f1 r1 c12 n12 f12 r12 a1 a12
   obtain⟨hb,hs⟩:=zj_ hs
   simp only[Option.some.injEq,Prod.mk.injEq]at hs
   obtain⟨rfl,rfl,rfl,rfl⟩:=hs
   simp only[Bool.and_eq_true]at hb
   obtain⟨⟨⟨⟨⟨⟨⟨⟨⟨⟨⟨b2,b3⟩,b4⟩,b5⟩,b6⟩,b7⟩,b8⟩,b9⟩,b10⟩,b11⟩,b13⟩,b14⟩:=hb
   obtain⟨k1,k12,g1,g12,y1,y2,y3,y4⟩:=hc
   obtain⟨A1,p1,d1,e1,t1⟩:=zk_ R a1 k1 (fun i hi=>hrd i (List.mem_append_left _ hi)) (by omega)
   obtain⟨A12,p12,d12,e12,t12⟩:=zk_ R a12 k12 (fun i hi=>hrd i (List.mem_append_right _ hi)) (by omega)
   refine y9_ (views:=[⟨5,(ls zg_ n1 f1).length,prS (ls zg_ n1 f1),A1,p1⟩,⟨1,(ls iOf n12 f12).length,i64S (ls iOf n12 f12),A12,p12⟩]) (TraceS_lit (ls zg_ n1 f1) ⟨(iOf v2),(iOf v3),(iOf v4),(iOf v5),(iOf v6)⟩ (iOf v7) (iOf v8) (iOf v9) (iOf v10) (iOf v11) (iOf v13) (iOf v14) (ls iOf n12 f12) p1 p12 y1 (by rw[zb_];exact y2) (by rw[zb_];exact y3) y4) ?_ R hm hwr ?_ ?_ ?_
   ·exact d21_
   ·exact d22_
   ·exact k88_
   ·exact k88_
  ·cases hs
 ·cases hs
end Go.Proofs.Ytjliakjbdcplcaa.Vm
end
section
namespace Go.Proofs.Ytjliakjbdcplcaa
open Go.RowKit
structure Kn where
 is_:Bool
 n:Int
deriving DecidableEq
structure Ft where
 reached:Bool
 regs:Nat→Kn
def K0:Kn:=⟨false,0⟩
def divB (op:Int):Bool:=op == 36 ||(op == 37 || op == 38)
def resK (i:Ins)(r:Nat→Kn):Kn×Bool:=
 if i.op=3 then(⟨true,i.n⟩,true)
 else if i.op=4 then(r i.b.toNat,true)
 else if i.op≤32 then(K0,true)
 else if divB i.op=true∧r i.c.toNat=⟨true,0⟩ then(K0,false)
 else if (r i.b.toNat).is_=false∨(r i.c.toNat).is_=false then(K0,true)
 else(⟨xg_ (i.op - 32) (r i.c.toNat).n == 0,applyV (i.op - 32) (r i.b.toNat).n (r i.c.toNat).n⟩,xg_ (i.op - 32) (r i.c.toNat).n == 0)
theorem kn_beq (x y:Kn):(x.is_ == y.is_ && x.n == y.n)=decide (x=y):=by
 obtain⟨a,b⟩:=x
 obtain⟨c,d⟩:=y
 by_cases h1:a=c<;>by_cases h2:b=d<;>simp[h1,h2]
def meetK (a b:Kn):Kn:=if a=b then a else K0
def meetR (a b:Nat→Kn):Nat→Kn:=fun k=>meetK (a k) (b k)
def setK (r:Nat→Kn)(k:Nat)(y:Kn):Nat→Kn:=fun j=>if j=k then y else r j
def emitL (i:Ins)(k:Int)(g t:Bool)(f:Ft):List (Int×Ft):=(if g then [(k+1,f)] else [])++(if t then [(y7_ i,f)] else [])
def yl_ (i:Ins)(k:Int)(f:Ft):List (Int×Ft):=
 if i.op=3∨i.op=4∨i.op=5∨i.op=7 then emitL i k (goesB i) (xj_ i) ⟨f.reached,setK f.regs i.a.toNat (resK i f.regs).1⟩
 else if i.op=6∨i.op=8 then emitL i k (goesB i) (xj_ i) f
 else if i.op=10∨i.op=11 then
  if (f.regs i.a.toNat).is_ then
   (if (i.op == 10 && (f.regs i.a.toNat).n == 0) ||(i.op == 11 && decide ((f.regs i.a.toNat).n < 0))then emitL i k false true f else emitL i k true false f)
  else emitL i k (goesB i) (xj_ i) f
 else if 32 < i.op then
  if (resK i f.regs).2 then emitL i k true (xj_ i) ⟨f.reached,setK f.regs i.a.toNat (resK i f.regs).1⟩ else []
 else emitL i k (goesB i) (xj_ i) f
def ftB (a b:Ft):Bool:=a.reached == b.reached && (a.regs 0 == b.regs 0 && (a.regs 1 == b.regs 1 && (a.regs 2 == b.regs 2 && (a.regs 3 == b.regs 3 && (a.regs 4 == b.regs 4 && (a.regs 5 == b.regs 5 && (a.regs 6 == b.regs 6 && a.regs 7 == b.regs 7)))))))
def F0:Ft:=⟨false,fun _=>K0⟩
def ys_ (F:List Ft)(k:Nat):Ft:=F.getD k F0
def joinF (o f:Ft):Ft:=if o.reached then ⟨o.reached,meetR o.regs f.regs⟩ else f
def updF (F:List Ft)(tt:Nat)(f:Ft):Option (List Ft):=if ftB (joinF (ys_ F tt) f) (ys_ F tt)then none else some (F.set tt (joinF (ys_ F tt) f))
def scanY (F:List Ft):List (Int×Ft)→Option (List Ft)
 | []=>none
 |(tt,f)::r=>match updF F tt.toNat f with|some G=>some G|none=>scanY F r
def scanK (p:List Ins)(F:List Ft):Nat→Option (List Ft)
 | 0=>none
 | j+1=>match scanK p F j with
  | some G=>some G
  | none=>if (ys_ F j).reached then scanY F (yl_ (p.getD j ⟨0,0,0,0,0⟩) j (ys_ F j))else none
def stepF (p:List Ins)(F:List Ft):Option (List Ft):=scanK p F p.length
def initF (n:Nat):List Ft:=(List.replicate n F0).set 0 ⟨true,fun k=>if 3≤k∧k < 8 then ⟨true,0⟩ else K0⟩
def iterF (p:List Ins):Nat→List Ft→List Ft
 | 0,F=>F
 | j+1,F=>match stepF p F with|some G=>iterF p j G|none=>F
def factsS (p:List Ins):List Ft:=iterF p (p.length*9) (initF p.length)
def one01 (k:Kn):Nat:=if k=K0 then 0 else 1
def cntR (r:Nat→Kn):Nat:=one01 (r 0)+one01 (r 1)+one01 (r 2)+one01 (r 3)+one01 (r 4)+one01 (r 5)+one01 (r 6)+one01 (r 7)
def wF (f:Ft):Nat:=if f.reached then cntR f.regs else 9
def sumF (F:List Ft):Nat:=(F.map wF).sum
theorem one01_le (k:Kn):one01 k≤1:=by unfold one01;split<;>omega
theorem cntR_le (r:Nat→Kn):cntR r≤8:=by
 unfold cntR
 have h0:=one01_le (r 0);have h1:=one01_le (r 1);have h2:=one01_le (r 2);have h3:=one01_le (r 3)
 have h4:=one01_le (r 4);have h5:=one01_le (r 5);have h6:=one01_le (r 6);have h7:=one01_le (r 7)
 omega
theorem meet01 (a b:Kn):one01 (meetK a b)≤one01 a∧(meetK a b≠a→one01 (meetK a b) < one01 a):=by
 unfold meetK
 by_cases h:a=b
 ·rw[if_pos h];exact⟨Nat.le_refl _,fun h=>absurd rfl h⟩
 ·rw[if_neg h]
  refine⟨by simp[one01],fun h2=>?_⟩
  have:a≠K0:=fun e=>h2 e.symm
  simp[one01,this]
theorem meet_lt {a b:Nat→Kn}(h:∃k,k < 8∧meetR a b k≠a k):cntR (meetR a b) < cntR a:=by
 have m:=fun k=>meet01 (a k) (b k)
 unfold cntR
 have h0:=(m 0).1;have h1:=(m 1).1;have h2:=(m 2).1;have h3:=(m 3).1
 have h4:=(m 4).1;have h5:=(m 5).1;have h6:=(m 6).1;have h7:=(m 7).1
 obtain⟨k,hk,hne⟩:=h
 have hs:=(m k).2 hne
 unfold meetR
 match k,hk with
 | 0,_=>omega
 | 1,_=>omega
 | 2,_=>omega
 | 3,_=>omega
 | 4,_=>omega
 | 5,_=>omega
 | 6,_=>omega
 | 7,_=>omega
theorem ftB_regs {a b:Ft}(hr:a.reached=b.reached)(h:ftB a b=false):∃k,k < 8∧a.regs k≠b.regs k:=by
 apply Classical.byContradiction
 intro hn
 have e:∀k,k < 8→a.regs k=b.regs k:=fun k hk=>Classical.byContradiction fun hne=>hn ⟨k,hk,hne⟩
 unfold ftB at h
 rw[hr,e 0 (by decide),e 1 (by decide),e 2 (by decide),e 3 (by decide),e 4 (by decide),e 5 (by decide),e 6 (by decide),e 7 (by decide)]at h
 simp at h
theorem joinF_lt {o f:Ft}(hf:f.reached=true)(h:ftB (joinF o f) o=false):wF (joinF o f) < wF o:=by
 unfold joinF at h ⊢
 cases ho:o.reached with
 | true=>
  rw[ho]at h
  simp only[if_true]at h ⊢
  obtain⟨k,hk,hne⟩:=ftB_regs (by rw[ho]) h
  unfold wF
  rw[ho]
  exact meet_lt ⟨k,hk,hne⟩
 | false=>
  simp only[Bool.false_eq_true,if_false]
  unfold wF
  rw[hf,ho]
  have:=cntR_le f.regs
  simp only[if_true,Bool.false_eq_true,if_false]
  omega
theorem sum_set:∀(l:List Nat) (k:Nat) (x:Nat) (y:Nat),l[k]? = some y→x < y→(l.set k x).sum < l.sum
 | [],k,x,y,h,_=>by simp at h
 | a::l,0,x,y,h,hl=>by
  simp at h
  subst h
  simp
  exact hl
 | a::l,k+1,x,y,h,hl=>by
  have:=sum_set l k x y (by simpa using h) hl
  simp
  exact this
theorem updF_lt {F G:List Ft}{tt:Nat}{f:Ft}(ht:tt < F.length)(hf:f.reached=true)(h:updF F tt f=some G):sumF G < sumF F∧G.length=F.length:=by
 unfold updF at h
 cases hb:ftB (joinF (ys_ F tt) f) (ys_ F tt)with
 | true=>rw[hb]at h;cases h
 | false=>
  rw[hb]at h
  simp only[Bool.false_eq_true,if_false,Option.some.injEq]at h
  subst h
  refine⟨?_,by simp⟩
  have hg:F[tt]? = some (ys_ F tt):=by unfold ys_;rw[List.getD_eq_getElem?_getD,List.getElem?_eq_getElem ht];rfl
  unfold sumF
  rw[List.map_set]
  refine sum_set _ _ _ (wF (ys_ F tt)) (by rw[List.getElem?_map,hg];rfl) (joinF_lt hf hb)
end Go.Proofs.Ytjliakjbdcplcaa
end
section
namespace Go.Proofs.Ytjliakjbdcplcaa.Vm
open Go.RowKit
def kS (k:Kn):SV:=.agg [.bool k.is_,.int .i64 k.n]
def kaS (r:Nat→Kn):SV:=.arr 8 2 fun q=>kS (r q)
def ftS (f:Ft):SV:=.agg [.bool f.reached,kaS f.regs]
def ftsS (F:List Ft):Nat→SV:=fun q=>ftS (ys_ F q)
theorem kS_size (k:Kn):(kS k).size=2:=rfl
theorem kS_agg (k:Kn):(kS k).isAgg=true:=rfl
theorem kS_plain (k:Kn):(kS k).plain=true:=rfl
theorem kaS_size (k:Nat→Kn):(kaS k).size=16:=rfl
theorem kaS_agg (k:Nat→Kn):(kaS k).isAgg=true:=rfl
theorem kaS_plain (k:Nat→Kn):(kaS k).plain=true:=rfl
theorem ftS_size (k:Ft):(ftS k).size=17:=rfl
theorem ftS_agg (k:Ft):(ftS k).isAgg=true:=rfl
theorem ftS_plain (k:Ft):(ftS k).plain=true:=rfl
theorem nav_k (k:Kn):nav (kS k) []=some (True,kS k):=rfl
theorem nav_k0 (k:Kn)(pa:List Stp):nav (kS k) (.f 0 0::pa)=nav (.bool k.is_) pa:=rfl
theorem nav_k1 (k:Kn)(pa:List Stp):nav (kS k) (.f 1 1::pa)=nav (.int .i64 k.n) pa:=rfl
theorem nav_ka (r:Nat→Kn):nav (kaS r) []=some (True,kaS r):=rfl
theorem nav_kai (r:Nat→Kn)(m:Nat)(pa:List Stp):nav (kaS r) (.i m 2::pa)=(match nav (kS (r m)) pa with|some (c,u)=>some (m < 8∧c,u)|none=>none):=rfl
theorem nav_ft (f:Ft):nav (ftS f) []=some (True,ftS f):=rfl
theorem nav_ft0 (f:Ft)(pa:List Stp):nav (ftS f) (.f 0 0::pa)=nav (.bool f.reached) pa:=rfl
theorem nav_ft1 (f:Ft)(pa:List Stp):nav (ftS f) (.f 1 1::pa)=nav (kaS f.regs) pa:=rfl
theorem ftS_stable {h:HM}(f:Ft):Stable h (ftS f):=by simp[ftS,kaS,kS,Stable,zd_]
theorem ite_kS (r:Nat→Kn)(m:Nat)(y:Kn):(fun j=>SV.ite (decide (j=m)) (kS y) (kS (r j)))=fun j=>kS (setK r m y j):=by
 funext j
 unfold setK
 rw[ite_eq]
 by_cases h:j=m
 ·simp[h]
 ·simp[h]
theorem setp_ka (r:Nat→Kn)(m o:Nat)(y:Kn):setp (kaS r) [.i m o] (kS y)=some (kaS (setK r m y)):=by
 show some (SV.arr 8 2 fun j=>SV.ite (decide (j=m)) (kS y) (kS (r j)))=_
 rw[ite_kS];rfl
theorem setp_ftk (f:Ft)(m o o':Nat)(y:Kn):setp (ftS f) [.f 1 o',.i m o] (kS y)=some (ftS ⟨f.reached,setK f.regs m y⟩):=by
 show some (SV.agg [.bool f.reached,SV.arr 8 2 fun j=>SV.ite (decide (j=m)) (kS y) (kS (f.regs j))])=_
 rw[ite_kS];rfl
theorem setp_ftr (f:Ft)(o:Nat)(b:Bool):setp (ftS f) [.f 0 o] (.bool b)=some (ftS ⟨b,f.regs⟩):=rfl
theorem setp_fti (f:Ft)(m o o' o2:Nat)(b:Bool):setp (ftS f) [.f 1 o',.i m o,.f 0 o2] (.bool b)=some (ftS ⟨f.reached,setK f.regs m ⟨b,(f.regs m).n⟩⟩):=by
 show some (SV.agg [.bool f.reached,SV.arr 8 2 fun j=>SV.ite (decide (j=m)) (kS ⟨b,(f.regs m).n⟩) (kS (f.regs j))])=_
 rw[ite_kS];rfl
theorem ftsS_set {F:List Ft}{t:Nat}{g:Ft}(ht:t < F.length)(q:Nat):SV.ite (decide (q=t)) (ftS g) (ftsS F q)=ftsS (F.set t g) q:=by
 unfold ftsS ys_
 rw[ite_eq]
 by_cases h:q=t
 ·subst h
  simp[List.getElem?_set_self ht]
 ·simp[h,List.getElem?_set_ne (fun e=>h e.symm)]
theorem kn_eq (x y:Kn):eqB (.struct [.bool,.int .i64]) (kS x) (kS y)=(x == y):=by
 show ((x.is_ == y.is_) && (decide (x.n=y.n) && true))=_
 rw[Bool.and_true,show decide (x.n=y.n)=(x.n == y.n) from rfl,kn_beq]
 rfl
theorem ft_eq (a b:Ft):eqB (.struct [.bool,.arr 8 2 (.struct [.bool,.int .i64])]) (ftS a) (ftS b)=ftB a b:=by
 have e:eqB (.struct [.bool,.arr 8 2 (.struct [.bool,.int .i64])]) (ftS a) (ftS b)=((a.reached == b.reached) && (allB 8 (fun q=>eqB (.struct [.bool,.int .i64]) (kS (a.regs q)) (kS (b.regs q))) && true)):=rfl
 rw[e]
 simp only[kn_eq,allB,Bool.true_and,Bool.and_true,ftB,Bool.and_assoc]
theorem ye_ (a:Ft):z3_ (.struct [.bool,.arr 8 2 (.struct [.bool,.int .i64])]) (ftS a)=True:=by
 simp[z3_,z5_,ftS,kaS,kS,kndOf]
theorem kn_shaped (a:Kn):z3_ (.struct [.bool,.int .i64]) (kS a)=True:=by
 simp[z3_,z5_,kS,kndOf]
theorem evm_ins (i:Ins)(a:Bool→SV→Option (Prop×SV))(b:SV→Option (Prop×SV))(c:Unit→Option (Prop×SV)):ev.match_1 (fun _=>Option (Prop×SV)) (some (insS i)) a b c=b (insS i):=rfl
theorem evm_snd (i:Snd)(a:Bool→SV→Option (Prop×SV))(b:SV→Option (Prop×SV))(c:Unit→Option (Prop×SV)):ev.match_1 (fun _=>Option (Prop×SV)) (some (sndS i)) a b c=b (sndS i):=rfl
theorem evm_k (i:Kn)(a:Bool→SV→Option (Prop×SV))(b:SV→Option (Prop×SV))(c:Unit→Option (Prop×SV)):ev.match_1 (fun _=>Option (Prop×SV)) (some (kS i)) a b c=b (kS i):=rfl
theorem evm_ka (i:Nat→Kn)(a:Bool→SV→Option (Prop×SV))(b:SV→Option (Prop×SV))(c:Unit→Option (Prop×SV)):ev.match_1 (fun _=>Option (Prop×SV)) (some (kaS i)) a b c=b (kaS i):=rfl
theorem evm_ft (i:Ft)(a:Bool→SV→Option (Prop×SV))(b:SV→Option (Prop×SV))(c:Unit→Option (Prop×SV)):ev.match_1 (fun _=>Option (Prop×SV)) (some (ftS i)) a b c=b (ftS i):=rfl
def knOf:SV→Kn
 | .agg [.bool b,x]=>⟨b,iOf x⟩
 | _=>K0
def isKn:SV→Bool
 | .agg [.bool b,x]=>isI .i64 x
 | _=>false
def kaOf:SV→Nat→Kn
 | .arr _ _ f=>fun q=>knOf (f q)
 | _=>fun _=>K0
def isKa:SV→Bool
 | .arr n k f=>Nat.beq n 8 && (Nat.beq k 2 && (isKn (f 0) && (isKn (f 1) && (isKn (f 2) && (isKn (f 3) && (isKn (f 4) && (isKn (f 5) && (isKn (f 6) && isKn (f 7)))))))))
 | _=>false
def ftOf:SV→Ft
 | .agg [.bool b,x]=>⟨b,kaOf x⟩
 | _=>F0
def isFt:SV→Bool
 | .agg [.bool b,x]=>isKa x
 | _=>false
theorem isKn_kS (k:Kn):isKn (kS k)=true:=rfl
theorem knOf_kS (k:Kn):knOf (kS k)=k:=rfl
theorem isKa_kaS (r:Nat→Kn):isKa (kaS r)=true:=rfl
theorem kaOf_kaS (r:Nat→Kn):kaOf (kaS r)=r:=rfl
theorem isFt_ftS (f:Ft):isFt (ftS f)=true:=rfl
theorem ftOf_ftS (f:Ft):ftOf (ftS f)=f:=rfl
theorem knOf_cl {β : Env}{v:SV}(h:isKn v=true):v.cl β = [.bool (knOf v).is_,.int .i64 (knOf v).n]:=by
 unfold isKn at h
 split at h
 ·rename_i b x
  have e:=zc_ (β:=β) h
  rw[cl_agg]
  have hx:x.cl β = [.int .i64 (iOf x)]:=by
   have h2:x.cl β =(x.den β).cells.toList.map sane:=rfl
   rw[h2,e];rfl
  rw[yf_,yf_,hx,clL_nil];rfl
 ·cases h
def kcsL (r:Nat→Kn):List Value:=[.bool (r 0).is_,.int .i64 (r 0).n,.bool (r 1).is_,.int .i64 (r 1).n,.bool (r 2).is_,.int .i64 (r 2).n,.bool (r 3).is_,.int .i64 (r 3).n,.bool (r 4).is_,.int .i64 (r 4).n,.bool (r 5).is_,.int .i64 (r 5).n,.bool (r 6).is_,.int .i64 (r 6).n,.bool (r 7).is_,.int .i64 (r 7).n]
theorem kaOf_cl {β : Env}{v:SV}(h:isKa v=true):v.cl β = kcsL (kaOf v):=by
 unfold isKa at h
 split at h
 ·rename_i n k f
  simp only[Bool.and_eq_true]at h
  obtain⟨h1,h2,g0,g1,g2,g3,g4,g5,g6,g7⟩:=h
  have h1:=Nat.eq_of_beq_eq_true h1
  have h2:=Nat.eq_of_beq_eq_true h2
  subst h1 h2
  rw[cl_arr]
  have e:List.range 8=[0,1,2,3,4,5,6,7]:=rfl
  rw[e]
  simp only[List.flatMap_cons,List.flatMap_nil,knOf_cl g0,knOf_cl g1,knOf_cl g2,knOf_cl g3,knOf_cl g4,knOf_cl g5,knOf_cl g6,knOf_cl g7]
  rfl
 ·cases h
theorem isKa_agg {v:SV}(h:isKa v=true):v.isAgg=true:=by
 unfold isKa at h
 split at h
 ·rfl
 ·cases h
def kaDen (r:Nat→Kn):Value:=.agg (kcsL r).toArray
def ftDen (f:Ft):Value:=.agg (.bool f.reached::kcsL f.regs).toArray
theorem kaOf_den {β : Env}{v:SV}(h:isKa v=true):v.den β = kaDen (kaOf v):=by
 rw[den_agg (isKa_agg h),kaOf_cl h];rfl
theorem ftOf_den {β : Env}{v:SV}(h:isFt v=true):v.den β = ftDen (ftOf v):=by
 unfold isFt at h
 split at h
 ·rename_i b x
  rw[den_agg (v:=.agg [.bool b,x]) rfl,cl_agg,yf_,yf_,clL_nil,kaOf_cl h,List.append_nil]
  rfl
 ·cases h
theorem kaS_den {β : Env}(r:Nat→Kn):(kaS r).den β = kaDen r:=kaOf_den (isKa_kaS r)
theorem ftS_den {β : Env}(f:Ft):(ftS f).den β = ftDen f:=ftOf_den (isFt_ftS f)
theorem less_ft {t:Nat}{ex c:Bool}{F:Nat→SV}{r:Nat→Kn}(h:∀q,q < 8→∀β,(F q).cl β =(kS (r q)).cl β):Less (.own t (.agg [.bool c,.arr 8 2 F]) ex) (.own t (ftS ⟨c,r⟩) ex):=by
 refine .val (fun β=>?_) (fun n k f e=>by cases e) (fun n k f e=>by cases e)
 show (SV.agg [.bool c,.arr 8 2 F]).cl β =(SV.agg [.bool c,kaS r]).cl β
 rw[cl_agg,cl_agg,yf_,yf_,clL_nil,yf_,yf_,clL_nil]
 unfold kaS
 rw[cl_arr,cl_arr,List.flatMap_def,List.flatMap_def]
 congr 3
 exact List.map_congr_left fun q hq=>by rw[h q (List.mem_range.1 hq) β]
theorem kn_eqZ (x:Kn)(l:List SV):eqB (.struct [.bool,.int .i64]) (kS x) (.agg l)=eqBL [.bool,.int .i64] [.bool x.is_,.int .i64 x.n] l:=rfl
theorem setp_ftz (f:Ft)(m o o':Nat)(l:List SV):setp (ftS f) [.f 1 o',.i m o] (.agg l)=some (.agg [.bool f.reached,.arr 8 2 fun j=>SV.ite (decide (j=m)) (.agg l) (kS (f.regs j))]):=rfl
set_option linter.defProp false
def JF:=And.intro @kS_size (And.intro @kS_agg (And.intro @kS_plain (And.intro @kaS_size (And.intro @kaS_agg (And.intro @kaS_plain (And.intro @ftS_size (And.intro @ftS_agg (And.intro @ftS_plain (And.intro @ft_eq (And.intro @ye_ (And.intro @kn_eq @kn_shaped)))))))))))
end Go.Proofs.Ytjliakjbdcplcaa.Vm
end
section
open Go.Proofs.Ytjliakjbdcplcaa.Vm Go.RowKit
attribute [local push_cast] eqB eqBL allB
section
namespace Go.Proofs.Ytjliakjbdcplcaa.Vm
open Go.RowKit
def idxI (xs:List Int)(v:Int):Int:=if v∈xs then(xs.idxOf v:Int)else -1
theorem idx_at {xs:List Int}{v:Int}{j:Nat}(hj:j < xs.length)(h:∀q,q < j→xs.getD q 0≠v)(hv:v=xs.getD j 0):idxI xs v=j:=by
 have hm:v∈xs:=by rw[hv,List.getD_eq_getElem?_getD,List.getElem?_eq_getElem hj];exact List.getElem_mem hj
 unfold idxI
 rw[if_pos hm]
 congr 1
 have key:∀(l:List Int) (j:Nat),j < l.length→(∀q,q < j→l.getD q 0≠v)→v=l.getD j 0→l.idxOf v=j:=by
  intro l
  induction l with
  | nil=>intro j hj;simp at hj
  | cons a l ih=>
   intro j hj hne he
   cases j with
   | zero=>simp at he;simp[he]
   | succ j=>
    have h0:=hne 0 (by omega)
    simp at h0
    rw[List.idxOf_cons]
    have:(a == v)=false:=by simpa using h0
    rw[this,cond_false,ih j (by simpa using hj) (fun q hq=>by simpa using hne (q+1) (by omega)) (by simpa using he)]
 exact key xs j hj h hv
theorem idx_none {xs:List Int}{v:Int}(h:∀q,q < xs.length→xs.getD q 0≠v):idxI xs v = -1:=by
 unfold idxI
 rw[if_neg]
 intro hm
 obtain⟨q,hq,e⟩:=List.getElem_of_mem hm
 exact h q hq (by rw[List.getD_eq_getElem?_getD,List.getElem?_eq_getElem hq];exact e)
theorem idx_nonneg {xs:List Int}{v:Int}:0≤idxI xs v↔v∈xs:=by
 unfold idxI
 split
 ·rename_i h;exact⟨fun _=>h,fun _=>by omega⟩
 ·rename_i h;exact⟨fun h'=>by omega,fun h'=>absurd h' h⟩
theorem idx_lit (xs:List Int)(v:Int)(p1:Nat)(hx:xs.length≤281474976710656):yc_ Try.prog 67 [.sl 1 2 [] 1 0 xs.length (some p1),.int .i64 v] [.gone,.gone,.ro (.arr xs.length 1 (i64S xs))] (.int .i64 (idxI xs v)) [.gone]:=by
 refine zm_ (fn:=Try.f67) 3 19 0 rfl rfl rfl rfl rfl u10_ rfl fun w0 M E hro=>?_
 repeat' (first|refine Ctl.h ?_ |((with_reducible intro hif);first |(focus (cases hif;done)) |((try simp only[JH]at hif);try exact hy_)) |((with_reducible first|apply J22 c1_ok za_|apply J23 fol c1_ok za_|apply J24);(·rfl);(· exact k80_);(try kernel_rfl);try exact z9_)|fail)
 refine WF.loopAt (fun j=>j≤xs.length∧∀q,q < j→xs.getD q 0≠v) (fun j=>[(0,.sl 1 2 [] 1 0 xs.length (some p1)),(1,.int .i64 v),(7,.nat .i64 xs.length),(8,.nat .i64 j)]) (fun j=>[.gone,.gone,.ro (.arr xs.length 1 (i64S xs))]) (fun j=>xs.length - j) 0 ⟨Nat.zero_le _,fun q hq=>absurd hq (Nat.not_lt_zero q)⟩ ?_ ?_ rfl ?_ ?_ rfl ?_
 ·exact k28_
 ·exact k7_
 ·exact k77_
 ·exact k77_
 rintro j ⟨hj,heq⟩
 repeat' (first|refine Ctl.h ?_ |((with_reducible intro hif);first |(focus (cases hif;done)) |((try simp only[JH]at hif);try exact hy_)) |((with_reducible first|apply J22 c1_ok za_|apply J23 fol c1_ok za_|apply J24);(·rfl);(· (simp only[push_cast,↓JP,Nat.reduceAdd,Nat.reduceEqDiff,Nat.reduceLT,Nat.reduceMul,Nat.reduceLeDiff,reduceCtorEq,reduceIte,i64S,inN];rfl));(try kernel_rfl);try exact k81_)|fail)
 ·rename_i hjl
  apply At.endsRet za_ (fn:=Try.f67) (rs:=[.tmp 4]) Anc.refl hro (lb_ rfl) rfl
  ·exact k76_
  ·exact k6_
  ·exact k7_
  ·rfl
  ·exact k77_
  ·exact k9_
  ·rw[idx_at hjl heq hif];exact fun β=>rfl
  ·exact k77_
 ·refine At.next (j+1) ?_ ?_ ?_ rfl ?_ ?_ rfl
  ·refine⟨⟨by omega,fun q hq'=>?_⟩,by omega⟩;by_cases e:q=j;(rw[e];exact fun e=>hif e.symm);exact heq q (by omega)
  ·exact k28_
  ·exact k7_
  ·exact k77_
  ·exact k77_
 ·have hjn:j=xs.length:=by omega
  subst hjn
  apply At.endsRet za_ (fn:=Try.f67) (rs:=[.tmp 4]) Anc.refl hro (lb_ rfl) rfl
  ·exact k76_
  ·exact k6_
  ·exact k7_
  ·rfl
  ·exact k77_
  ·exact k9_
  ·rw[idx_none heq];exact fun β=>rfl
  ·exact k77_
def sIdx:yr_:=fun args h m=>match args with
 | [v1,v2]=>match srcV h 1 (.tup []) v1 with
  | some (c1,n1,f1,r1)=>bif isI .i64 v2 then some (c1∧(∀q,q < n1→isI .i64 (f1 q)=true)∧((ls iOf n1 f1).length≤281474976710656),.int .i64 (idxI (ls iOf n1 f1) (iOf v2)),r1,[])else none
  | _=>none
 | _=>none
theorem sIdx_ok:zh_ Try.prog 67 sIdx:=by
 refine⟨zf_ (by kernel_rfl),fun args h m c v rd wr hs hm hc w0 M β h' w R hrd hwr hst=>?_⟩
 unfold sIdx at hs
 split at hs
 ·rename_i v1 v2
  split at hs
  ·rename_i c1 n1 f1 r1 a1
   obtain⟨hb,hs⟩:=zj_ hs
   simp only[Option.some.injEq,Prod.mk.injEq]at hs
   obtain⟨rfl,rfl,rfl,rfl⟩:=hs
   have b2:=hb
   obtain⟨k1,g1,y1⟩:=hc
   obtain⟨A1,p1,d1,e1,t1⟩:=zk_ R a1 k1 (fun i hi=>hrd i hi) (by omega)
   refine y9_ (views:=[⟨1,(ls iOf n1 f1).length,i64S (ls iOf n1 f1),A1,p1⟩]) (idx_lit (ls iOf n1 f1) (iOf v2) p1 y1) ?_ R hm hwr ?_ ?_ ?_
   ·intro x hx
    simp only[List.mem_cons,List.not_mem_nil,or_false]at hx
    subst hx
    ·exact xl_ t1 e1 g1
   ·exact d32_
   ·exact k77_
   ·exact k77_
  ·cases hs
 ·cases hs
def cIdx:FuncId→Option yr_:=xb_ [(67,sIdx)]
theorem cIdx_ok:∀f S,cIdx f=some S→zh_ Try.prog f S:=zn_ ⟨sIdx_ok,trivial⟩
theorem cont_lit (xs:List Int)(v:Int)(p1:Nat)(hx:xs.length≤281474976710656):yc_ Try.prog 38 [.sl 1 2 [] 1 0 xs.length (some p1),.int .i64 v] [.gone,.gone,.ro (.arr xs.length 1 (i64S xs))] (.bool (decide (v∈xs))) [.gone]:=by
 refine zm_ (fn:=Try.f38) 3 9 0 rfl rfl rfl rfl rfl u10_ rfl fun w0 M E hro=>?_
 repeat' (first|refine Ctl.h ?_ |((with_reducible intro hif);first |(focus (cases hif;done)) |((try simp only[JH]at hif);try exact hy_)) |((with_reducible first|apply J22 cIdx_ok za_|apply J23 fol cIdx_ok za_|apply J24);(·rfl);(· (simp only[push_cast,↓JP,Nat.reduceAdd,Nat.reduceEqDiff,Nat.reduceLT,Nat.reduceMul,Nat.reduceLeDiff,reduceCtorEq,reduceIte,cIdx,sIdx,y5_,y4_,iOf,ls_i64S,ls_i64S'];rfl));(try kernel_rfl);(try (focus (first|exact True.intro |((try simp only[JS,implies_true,forall_const,z3_,z5_,kndOf]);(first|exact⟨fun q _=>rfl,hx⟩ |(repeat' (first|assumption|exact True.intro|omega|apply And.intro)));done)))))|fail)
 apply At.endsRet za_ (fn:=Try.f38) (rs:=[.tmp 4]) Anc.refl hro (lb_ rfl) rfl
 ·exact k76_
 ·exact k6_
 ·exact k7_
 ·rfl
 ·exact k77_
 ·exact k9_
 ·intro β;simp[resS,SV.den,idx_nonneg]
 ·exact k77_
def sCont:yr_:=fun args h m=>match args with
 | [v1,v2]=>match srcV h 1 (.tup []) v1 with
  | some (c1,n1,f1,r1)=>bif isI .i64 v2 then some (c1∧(∀q,q < n1→isI .i64 (f1 q)=true)∧((ls iOf n1 f1).length≤281474976710656),.bool (decide ((iOf v2)∈(ls iOf n1 f1))),r1,[])else none
  | _=>none
 | _=>none
theorem sCont_ok:zh_ Try.prog 38 sCont:=by
 refine⟨zf_ (by kernel_rfl),fun args h m c v rd wr hs hm hc w0 M β h' w R hrd hwr hst=>?_⟩
 unfold sCont at hs
 split at hs
 ·rename_i v1 v2
  split at hs
  ·rename_i c1 n1 f1 r1 a1
   obtain⟨hb,hs⟩:=zj_ hs
   simp only[Option.some.injEq,Prod.mk.injEq]at hs
   obtain⟨rfl,rfl,rfl,rfl⟩:=hs
   have b2:=hb
   obtain⟨k1,g1,y1⟩:=hc
   obtain⟨A1,p1,d1,e1,t1⟩:=zk_ R a1 k1 (fun i hi=>hrd i hi) (by omega)
   refine y9_ (views:=[⟨1,(ls iOf n1 f1).length,i64S (ls iOf n1 f1),A1,p1⟩]) (cont_lit (ls iOf n1 f1) (iOf v2) p1 y1) ?_ R hm hwr ?_ ?_ ?_
   ·intro x hx
    simp only[List.mem_cons,List.not_mem_nil,or_false]at hx
    subst hx
    ·exact xl_ t1 e1 g1
   ·exact d32_
   ·exact k77_
   ·exact k77_
  ·cases hs
 ·cases hs
def sGoes:yr_:=fun args h m=>match args with
 | [v1]=>bif isIns v1 then some (((zg_ v1).ok),.bool (goesB (zg_ v1)),[],[])else none
 | _=>none
theorem sGoes_ok:zh_ Try.prog 94 sGoes:=by
 refine⟨zf_ (by kernel_rfl),fun args h m c v rd wr hs hm hc w0 M β h' w R hrd hwr hst=>?_⟩
 unfold sGoes at hs
 split at hs
 ·rename_i v1
  obtain⟨hb,hs⟩:=zj_ hs
  simp only[Option.some.injEq,Prod.mk.injEq]at hs
  obtain⟨rfl,rfl,rfl,rfl⟩:=hs
  have b1:=hb
  have y1:=hc
  simp only[denL,yp_,yo_,yn_,z6_,den_insOf b1]
  exact(goes_c (zg_ v1) y1 w).mono fun e w' he=>post_read R u2_ rfl he.1 he.2
 ·cases hs
def z8_:yr_:=fun args h m=>match args with
 | [v1]=>bif isIns v1 then some (((zg_ v1).ok),.tup [.int .i64 (y7_ (zg_ v1)),.bool (xj_ (zg_ v1))],[],[])else none
 | _=>none
theorem sTarget_ok:zh_ Try.prog 93 z8_:=by
 refine⟨zf_ (by kernel_rfl),fun args h m c v rd wr hs hm hc w0 M β h' w R hrd hwr hst=>?_⟩
 unfold z8_ at hs
 split at hs
 ·rename_i v1
  obtain⟨hb,hs⟩:=zj_ hs
  simp only[Option.some.injEq,Prod.mk.injEq]at hs
  obtain⟨rfl,rfl,rfl,rfl⟩:=hs
  have b1:=hb
  have y1:=hc
  simp only[denL,yp_,yo_,yn_,z6_,den_insOf b1]
  exact(target_c (zg_ v1) y1 w).mono fun e w' he=>post_read R u2_ rfl he.1 he.2
 ·cases hs
def cRight:FuncId→Option yr_:=xb_ [(63,sCheck)]
theorem cRight_ok:∀f S,cRight f=some S→zh_ Try.prog f S:=zn_ ⟨sCheck_ok,trivial⟩
def rightI (p:List Ins):Int:=if (y8_ p).2=0 then 0 else 160
theorem right_lit (xs:List Ins)(p1:Nat)(hx:∀x∈xs,x.ok)(hl:xs.length≤281474976710656):yc_ Try.prog 68 [.sl 1 2 [] 5 0 xs.length (some p1)] [.gone,.gone,.ro (.arr xs.length 5 (prS xs))] (.int .i64 (rightI xs)) [.gone]:=by
 refine zm_ (fn:=Try.f68) 3 12 0 rfl rfl rfl rfl rfl u10_ rfl fun w0 M E hro=>?_
 repeat' (first|refine Ctl.h ?_ |((with_reducible intro hif);first |(focus (cases hif;done)) |((try simp only[JH]at hif);try exact hy_)) |((with_reducible first|apply J22 cRight_ok za_|apply J23 fol cRight_ok za_|apply J24);(·rfl);(· (simp only[push_cast,↓JP,Nat.reduceAdd,Nat.reduceEqDiff,Nat.reduceLT,Nat.reduceMul,Nat.reduceLeDiff,reduceCtorEq,reduceIte,cRight,sCheck,ls_prS,ls_prS'];rfl));(try kernel_rfl);try exact k95_)|fail)
 ·exact d33_
 ·exact d33_
def sRight:yr_:=fun args h m=>match args with
 | [v1]=>match srcV h 5 (.tup []) v1 with
  | some (c1,n1,f1,r1)=>some (c1∧(∀q,q < n1→isIns (f1 q)=true)∧((∀x∈(ls zg_ n1 f1),x.ok))∧(n1≤281474976710656),.int .i64 (rightI (ls zg_ n1 f1)),r1,[])
  | _=>none
 | _=>none
theorem sRight_ok:zh_ Try.prog 68 sRight:=by
 refine⟨zf_ (by kernel_rfl),fun args h m c v rd wr hs hm hc w0 M β h' w R hrd hwr hst=>?_⟩
 unfold sRight at hs
 split at hs
 ·rename_i v1
  split at hs
  ·rename_i c1 n1 f1 r1 a1
   simp only[Option.some.injEq,Prod.mk.injEq]at hs
   obtain⟨rfl,rfl,rfl,rfl⟩:=hs
   obtain⟨k1,g1,y1,y2⟩:=hc
   obtain⟨A1,p1,d1,e1,t1⟩:=zk_ R a1 k1 (fun i hi=>hrd i hi) (by omega)
   refine y9_ (views:=[⟨5,(ls zg_ n1 f1).length,prS (ls zg_ n1 f1),A1,p1⟩]) (right_lit (ls zg_ n1 f1) p1 y1 (by rw[zb_];exact y2)) ?_ R hm hwr ?_ ?_ ?_
   ·exact d34_
   ·exact d35_
   ·exact k77_
   ·exact k77_
  ·cases hs
 ·cases hs
end Go.Proofs.Ytjliakjbdcplcaa.Vm
end
end

import Derived.Test.YtjliakjbdcplcaaU1
import Derived.Test.YtjliakjbdcplcaaU8
import Derived.Test.YtjliakjbdcplcaaU9
import Derived.Test.YtjliakjbdcplcaaU10
import Derived.Test.YtjliakjbdcplcaaU12
import Derived.Test.YtjliakjbdcplcaaU15
import Derived.IntWalk
import Derived.Laws.ResultCell
import Derived.Laws.OwnMore
import Derived.Lib.OthersKept
import Derived.Deep.RegionHeld3
import Derived.StillTailTactics
import Derived.Deep.QuietTactic
import Derived.Deep.RegionLaw
import Derived.Deep.DrawnRows
import Derived.Laws.EntriesVeiled
import Derived.BigQuiet
import Derived.WalkSpells
import Derived.Handy
import Derived.Deep.DeepCutAuto
set_option linter.unusedSimpArgs false
set_option linter.unusedVariables false
set_option maxRecDepth 100000
set_option maxHeartbeats 4000000
section
namespace Go.Proofs.Ytjliakjbdcplcaa.Vm
open Go.RowKit
attribute [local push_cast] eqB eqBL allB
theorem eqI64_lit (xs ys:List Int)(p1 p2:Nat)(hx:xs.length≤281474976710656):yc_ Try.prog 20 [.sl 1 2 [] 1 0 xs.length (some p1),.sl 3 4 [] 1 0 ys.length (some p2)] [.gone,.gone,.ro (.arr xs.length 1 (i64S xs)),.gone,.ro (.arr ys.length 1 (i64S ys))] (.bool (eqL xs ys)) [.gone]:=by
 refine zm_ (fn:=Try.f20) 5 26 0 rfl rfl rfl rfl rfl u10_ rfl fun w0 M E hro=>?_
 repeat' (first|refine Ctl.h ?_ |((with_reducible intro hif);first |(focus (cases hif;done)) |((try simp only[JH]at hif);try exact hy_)) |((with_reducible first|apply J22 c1_ok za_|apply J23 fol c1_ok za_|apply J24);(·rfl);(· exact k80_);(try kernel_rfl);try exact z9_)|fail)
 ·have hne:xs≠ys:=fun e=>hif (by rw[e])
  apply At.endsRet za_ (fn:=Try.f20) (rs:=[.tmp 4]) Anc.refl hro (lb_ rfl) rfl
  ·exact k76_
  ·exact k6_
  ·exact k7_
  ·rfl
  ·exact k77_
  ·exact k9_
  ·rw[eqL_false hne];exact fun β=>rfl
  ·exact k77_
 ·refine WF.loopAt (fun j=>j≤xs.length∧∀q,q < j→xs.getD q 0=ys.getD q 0) (fun j=>[(0,.sl 1 2 [] 1 0 xs.length (some p1)),(1,.sl 3 4 [] 1 0 ys.length (some p2)),(12,.nat .i64 xs.length),(13,.nat .i64 j)]) (fun j=>[.gone,.gone,.ro (.arr xs.length 1 (i64S xs)),.gone,.ro (.arr ys.length 1 (i64S ys))]) (fun j=>xs.length - j) 0 ⟨Nat.zero_le _,fun q hq=>absurd hq (Nat.not_lt_zero q)⟩ ?_ ?_ rfl ?_ ?_ rfl ?_
  ·exact k28_
  ·exact k7_
  ·exact k77_
  ·exact k77_
  have hlen:=hif
  rintro j ⟨hj,heq⟩
  repeat' (first|refine Ctl.h ?_ |((with_reducible intro hif);first |(focus (cases hif;done)) |((try simp only[JH]at hif);try exact hy_)) |((with_reducible first|apply J22 c1_ok za_|apply J23 fol c1_ok za_|apply J24);(·rfl);(· (simp only[push_cast,↓JP,Nat.reduceAdd,Nat.reduceEqDiff,Nat.reduceLT,Nat.reduceMul,Nat.reduceLeDiff,reduceCtorEq,reduceIte,i64S,i64S,inN];rfl));(try kernel_rfl);try exact k81_)|fail)
  ·have hne:xs≠ys:=by rintro rfl;simp at hif
   apply At.endsRet za_ (fn:=Try.f20) (rs:=[.tmp 4]) Anc.refl hro (lb_ rfl) rfl
   ·exact k76_
   ·exact k6_
   ·exact k7_
   ·rfl
   ·exact k77_
   ·exact k9_
   ·rw[eqL_false hne];exact fun β=>rfl
   ·exact k77_
  ·have hq:xs.getD j 0=ys.getD j 0:=hif
   refine At.next (j+1) ?_ ?_ ?_ rfl ?_ ?_ rfl
   ·refine⟨⟨by omega,fun q hq'=>?_⟩,by omega⟩;by_cases e:q=j;(rw[e];exact hq);exact heq q (by omega)
   ·exact k28_
   ·exact k7_
   ·exact k77_
   ·exact k77_
  ·have hjn:j=xs.length:=by omega
   subst hjn
   have he:xs=ys:=ext_getD 0 hlen heq
   apply At.endsRet za_ (fn:=Try.f20) (rs:=[.tmp 4]) Anc.refl hro (lb_ rfl) rfl
   ·exact k76_
   ·exact k6_
   ·exact k7_
   ·rfl
   ·exact k77_
   ·exact k9_
   ·rw[eqL_true he];exact fun β=>rfl
   ·exact k77_
def sEqI64:yr_:=fun args h m=>match args with
 | [v1,v2]=>match srcV h 1 (.tup []) v1,srcV h 1 (.tup []) v2 with
  | some (c1,n1,f1,r1),some (c2,n2,f2,r2)=>some (c1∧c2∧(∀q,q < n1→isI .i64 (f1 q)=true)∧(∀q,q < n2→isI .i64 (f2 q)=true)∧((ls iOf n1 f1).length≤281474976710656),.bool (eqL (ls iOf n1 f1) (ls iOf n2 f2)),r1++r2,[])
  | _,_=>none
 | _=>none
theorem sEqI64_ok:zh_ Try.prog 20 sEqI64:=by
 refine⟨zf_ (by kernel_rfl),fun args h m c v rd wr hs hm hc w0 M β h' w R hrd hwr hst=>?_⟩
 unfold sEqI64 at hs
 split at hs
 ·rename_i v1 v2
  split at hs
  ·rename_i c1 n1 f1 r1 c2 n2 f2 r2 a1 a2
   simp only[Option.some.injEq,Prod.mk.injEq]at hs
   obtain⟨rfl,rfl,rfl,rfl⟩:=hs
   obtain⟨k1,k2,g1,g2,y1⟩:=hc
   obtain⟨A1,p1,d1,e1,t1⟩:=zk_ R a1 k1 (fun i hi=>hrd i (List.mem_append_left _ hi)) (by omega)
   obtain⟨A2,p2,d2,e2,t2⟩:=zk_ R a2 k2 (fun i hi=>hrd i (List.mem_append_right _ hi)) (by omega)
   refine y9_ (views:=[⟨1,(ls iOf n1 f1).length,i64S (ls iOf n1 f1),A1,p1⟩,⟨1,(ls iOf n2 f2).length,i64S (ls iOf n2 f2),A2,p2⟩]) (eqI64_lit (ls iOf n1 f1) (ls iOf n2 f2) p1 p2 y1) ?_ R hm hwr ?_ ?_ ?_
   ·intro x hx
    simp only[List.mem_cons,List.not_mem_nil,or_false]at hx
    rcases hx with rfl|rfl
    ·exact xl_ t1 e1 g1
    ·exact xl_ t2 e2 g2
   ·intro β1 hv
    simp only[Vd,zb_,and_true]at hv
    obtain⟨z1,z2⟩:=hv
    simp only[denL,yp_,yo_,yn_,z6_,zb_,z1,z2,d1,d2]
   ·exact k77_
   ·exact k77_
  ·cases hs
 ·cases hs
end Go.Proofs.Ytjliakjbdcplcaa.Vm
end
section
namespace Go.Proofs.Ytjliakjbdcplcaa
open Go.RowKit
theorem u64_bd4 (z:Int):0≤IntKind.u64.wrap z∧IntKind.u64.wrap z < 18446744073709551616:=by
 have e:IntKind.u64.wrap z=z % 18446744073709551616:=by simp[IntKind.wrap,IntKind.bits,IntKind.signed]
 rw[e];omega
def tbl14:List Int:=[3,3,3,3,3,4,5,5,5,6,6,6,7,8,8,9,10,10,10,11,11,1,2]
def op14 (o:Int):Int:=if o % 40 < 17 then 33+o % 40 else tbl14.getD (o % 40 - 17).toNat 0
def tblV:Array Value:=#[.int .u8 3,.int .u8 3,.int .u8 3,.int .u8 3,.int .u8 3,.int .u8 4,.int .u8 5,.int .u8 5,.int .u8 5,.int .u8 6,.int .u8 6,.int .u8 6,.int .u8 7,.int .u8 8,.int .u8 8,.int .u8 9,.int .u8 10,.int .u8 10,.int .u8 10,.int .u8 11,.int .u8 11,.int .u8 1,.int .u8 2]
theorem tblV_at (k:Nat)(h:k < 23):tblV[k]? = some (.int .u8 (tbl14.getD k 0)):=by
 match k,h with
 | 0,_=>rfl
 | 1,_=>rfl
 | 2,_=>rfl
 | 3,_=>rfl
 | 4,_=>rfl
 | 5,_=>rfl
 | 6,_=>rfl
 | 7,_=>rfl
 | 8,_=>rfl
 | 9,_=>rfl
 | 10,_=>rfl
 | 11,_=>rfl
 | 12,_=>rfl
 | 13,_=>rfl
 | 14,_=>rfl
 | 15,_=>rfl
 | 16,_=>rfl
 | 17,_=>rfl
 | 18,_=>rfl
 | 19,_=>rfl
 | 20,_=>rfl
 | 21,_=>rfl
 | 22,_=>rfl
 | n+23,h=>exact absurd h (by omega)
theorem tblV_get (k:Nat)(h:k < ([.int .u8 3,.int .u8 3,.int .u8 3,.int .u8 3,.int .u8 3,.int .u8 4,.int .u8 5,.int .u8 5,.int .u8 5,.int .u8 6,.int .u8 6,.int .u8 6,.int .u8 7,.int .u8 8,.int .u8 8,.int .u8 9,.int .u8 10,.int .u8 10,.int .u8 10,.int .u8 11,.int .u8 11,.int .u8 1,.int .u8 2]:List Value).length):([.int .u8 3,.int .u8 3,.int .u8 3,.int .u8 3,.int .u8 3,.int .u8 4,.int .u8 5,.int .u8 5,.int .u8 5,.int .u8 6,.int .u8 6,.int .u8 6,.int .u8 7,.int .u8 8,.int .u8 8,.int .u8 9,.int .u8 10,.int .u8 10,.int .u8 10,.int .u8 11,.int .u8 11,.int .u8 1,.int .u8 2]:List Value)[k]=.int .u8 (tbl14.getD k 0):=by
 have:=tblV_at k h
 unfold tblV at this
 rw[List.getElem?_toArray]at this
 exact Option.some.inj ((List.getElem?_eq_getElem h).symm.trans this)
theorem op14_bd (o:Int):1≤op14 o∧op14 o≤49∧xh_ (op14 o)≠0:=by
 unfold op14
 by_cases h:o % 40 < 17
 ·rw[if_pos h]
  refine⟨by omega,by omega,?_⟩
  unfold xh_
  rw[if_pos (by omega)]
  decide
 ·rw[if_neg h]
  obtain⟨k,hk,hk2⟩:∃k:Nat,(o % 40 - 17).toNat=k∧k < 23:=⟨_,rfl,by omega⟩
  rw[hk]
  match k,hk2 with
  | 0,_=>exact(by decide)
  | 1,_=>exact(by decide)
  | 2,_=>exact(by decide)
  | 3,_=>exact(by decide)
  | 4,_=>exact(by decide)
  | 5,_=>exact(by decide)
  | 6,_=>exact(by decide)
  | 7,_=>exact(by decide)
  | 8,_=>exact(by decide)
  | 9,_=>exact(by decide)
  | 10,_=>exact(by decide)
  | 11,_=>exact(by decide)
  | 12,_=>exact(by decide)
  | 13,_=>exact(by decide)
  | 14,_=>exact(by decide)
  | 15,_=>exact(by decide)
  | 16,_=>exact(by decide)
  | 17,_=>exact(by decide)
  | 18,_=>exact(by decide)
  | 19,_=>exact(by decide)
  | 20,_=>exact(by decide)
  | 21,_=>exact(by decide)
  | 22,_=>exact(by decide)
  | n+23,h=>exact absurd h (by omega)
set_option maxRecDepth 100000 in
set_option maxHeartbeats 1000000 in
theorem op14_c (x:Ins)(hx:x.ok)(w:World):Calls Try.prog 102 #[x.v] w fun e w'=>e=.returned (.int .u8 (op14 x.op))∧Below w.heap.size w w':=by
 obtain⟨o0,o1,-,-,-,-,-,-,-,-⟩:=hx
 obtain⟨op,a,b,c,n⟩:=x
 dsimp only at o0 o1 ⊢
 unfold Ins.v
 dsimp only
 have m1:Int.tmod op 40=op % 40:=Int.tmod_eq_emod_of_nonneg o0
 have hv:op14 op=if op % 40 < 17 then 33+op % 40 else tbl14.getD (op % 40 - 17).toNat 0:=rfl
 obtain⟨M,hM⟩:∃M,M=op % 40:=⟨_,rfl⟩
 have hM0:0≤M∧M < 40:=by omega
 rw[←hM]at m1 hv
 have hM':op % 40=M:=hM.symm
 clear hM
 by_cases h:M < 17
 ·rw[if_pos h]at hv
  rw[hv]
  have d1:=decide_eq_true h
  have w1:IntKind.u8.wrap (33+M)=33+M:=IntWalk.u8_in _ (by omega)
  clear hv
  go_enter Try.func102,Try.ntmps102
  go_wp2_with fail
  go_ret
  exact⟨rfl,(Below.refl _ w).alloc (Nat.le_refl _) _⟩
 ·rw[if_neg h]at hv
  rw[hv]
  have d1:=decide_eq_false h
  have w1:IntKind.u8.wrap (M - 17)=M - 17:=IntWalk.u8_in _ (by omega)
  obtain⟨k,hk⟩:∃k:Nat,M - 17=k:=⟨(M - 17).toNat,by omega⟩
  have hk23:k < 23:=by omega
  have hk0:(0:Int)≤(k:Int):=by omega
  have hk1:(k:Int) < 23:=by omega
  rw[hk]at w1
  have hz:((M - 17).toNat)=k:=by omega
  rw[hz]
  have hb:=tblV_get k
  obtain⟨V,hV⟩:∃V,V=tbl14.getD k 0:=⟨_,rfl⟩
  rw[←hV]at hb ⊢
  clear hv hV hz h
  go_enter Try.func102,Try.ntmps102
  go_wp2_with fail
  go_ret
  exact⟨rfl,((Below.refl _ w).alloc (Nat.le_refl _) _).alloc (by simp) _⟩
def fld14 (x:Ins):Nat→Int | 0=>x.a | 1=>x.b|_=>x.c
def setF14 (i:Ins)(k:Nat)(v:Int):Ins:=match k with | 0=>{ i with a:=v } | 1=>{ i with b:=v } | _=>{ i with c:=v }
def step14 (x:Ins)(M:Int)(st:Nat×Ins)(l:UInt8):Nat×Ins:=
 if l.toNat=114 then(st.1+1,if st.1 < 3 then setF14 st.2 st.1 (fld14 x st.1 % 8)else st.2)
 else if l.toNat=110 then(st.1,{ st.2 with n:=x.n })
 else if l.toNat=112 then(st.1,{ st.2 with n:=IntKind.u64.wrap x.n % 16 })
 else(st.1,{ st.2 with n:=IntKind.u64.wrap x.n % M })
def fold14 (x:Ins)(M:Int)(S:ByteArray)(p:Nat):Nat×Ins:=(S.data.toList.take p).foldl (step14 x M) (0,⟨op14 x.op,0,0,0,0⟩)
theorem fold14_succ (x:Ins)(M:Int)(S:ByteArray)(p:Nat)(h:p < S.size):fold14 x M S (p+1)=step14 x M (fold14 x M S p) (S[p]'h):=by
 unfold fold14
 rw[List.take_add_one]
 have:S.data.toList[p]? = some (S[p]'h):=by
  rw[Array.getElem?_toList]
  exact Array.getElem?_eq_getElem (show p < S.data.size from h)
 rw[this]
 simp
def itPos (S:ByteArray)(g:Nat)(X:World):Nat:=match X.heap[g]? with|some (.stringIter _ p)=>S.size - p|_=>0
theorem itPos_eq {S:ByteArray}{g p:Nat}{X:World}(h:X.heap[g]? = some (.stringIter S p)):itPos S g X=S.size - p:=by unfold itPos;rw[h]
structure MI (w:World) (B:Nat) (x:Ins) (S:ByteArray) (p:Nat) (out:Ins) (X:World):Prop where
 it:X.heap[B+2]? = some (.stringIter S p)
 b8:Blk X B 73 #[.int .u8 out.op,.int .u8 out.a,.int .u8 out.b,.int .u8 out.c,.int .i64 out.n]
 b2:Blk X w.heap.size 155 #[.int .u8 x.op,.int .u8 x.a,.int .u8 x.b,.int .u8 x.c,.int .i64 x.n]
 b9:Blk X (B+1) 193 #[.pointer (some ⟨B,1,none⟩),.pointer (some ⟨B,2,none⟩),.pointer (some ⟨B,3,none⟩)]
 b4:Blk X (w.heap.size+1) 73 #[.int .u8 0,.int .u8 0,.int .u8 0,.int .u8 0,.int .i64 0]
 below:Below w.heap.size w X
section
variable {w X:World} {B:Nat} {x out:Ins} {S:ByteArray} {p:Nat}
theorem MI.next (h:MI w B x S p out X)(hB:w.heap.size+1 < B)(q:Nat):MI w B x S q out (X.iterAt (B+2) S q):=
 have f:∀{g t cs},g≠B+2→Blk X g t cs→Blk (X.iterAt (B+2) S q) g t cs:=fun hg hb=>(Lib.iterAt_other X (B+2) _ S q hg).trans hb
 ⟨Lib.iterAt_heap X (B+2) S p q h.it,f (by omega) h.b8,f (by omega) h.b2,f (by omega) h.b9,f (by omega) h.b4,Lib.below_iterAt h.below (by omega) S q⟩
theorem MI.alloc (h:MI w B x S p out X)(o:Obj):MI w B x S p out (X.alloc o):=
 ⟨(Below.heap_alloc X o _ (Array.getElem?_eq_some_iff.1 h.it).1).trans h.it,h.b8.alloc o,h.b2.alloc o,h.b9.alloc o,h.b4.alloc o,h.below.alloc h.below.size o⟩
theorem MI.drew (h:MI w B x S p out X):MI w B x S p out X.drew:=⟨h.it,h.b8,h.b2,h.b9,h.b4,h.below.drew⟩
theorem MI.set (h:MI w B x S p out X)(hB:w.heap.size+1 < B)(i:Nat)(u:Value)(out':Ins)(ho:(#[.int .u8 out.op,.int .u8 out.a,.int .u8 out.b,.int .u8 out.c,.int .i64 out.n]:Array Value).setIfInBounds i u = #[.int .u8 out'.op,.int .u8 out'.a,.int .u8 out'.b,.int .u8 out'.c,.int .i64 out'.n]) :
  MI w B x S p out' (X.setCell ⟨B,i,none⟩ u):=
 ⟨(Below.heap_setCell X ⟨B,i,none⟩ u (B+2) (by show B+2≠B;omega)).trans h.it,ho ▸ h.b8.set_ i u,h.b2.far (p:=⟨B,i,none⟩) (by show w.heap.size≠B;omega) u,h.b9.far (p:=⟨B,i,none⟩) (by show B+1≠B;omega) u,h.b4.far (p:=⟨B,i,none⟩) (by show w.heap.size+1≠B;omega) u,h.below.setCell (p:=⟨B,i,none⟩) (by show w.heap.size≤B;omega) u⟩
end
set_option maxRecDepth 100000 in
set_option maxHeartbeats 4000000 in
theorem one14_w (x:Ins)(hx:x.ok)(n:Int)(hn:1≤n∧n≤1000000)(S:ByteArray)(hS:S.size≤100)(hasc:∀p (h:p < S.size),(S[p]'h).toNat < 128)(w:World)
  (hform:∀w,Calls Try.prog 103 #[.int .u8 (op14 x.op)] w fun e w'=>e=.returned (.tuple #[.string S,.bool true])∧Below w.heap.size w w') :
  Calls Try.prog 71 #[x.v,.int .i64 n] w fun e w'=>e=.returned (fold14 x n S S.size).2.v∧Below w.heap.size w w':=by
 have HOP:=Lib.hid (fun W=>op14_c x hx W)
 have HF:=Lib.hid hform
 clear hform
 obtain⟨o0,o1,a0,a1,b0,b1,c0,c1,n0,n1⟩:=hx
 have f0:fold14 x n S 0=(0,⟨op14 x.op,0,0,0,0⟩):=by simp[fold14]
 have hfs:=fun p h=>fold14_succ x n S p h
 obtain⟨op,hop⟩:∃op,op=op14 x.op:=⟨_,rfl⟩
 rw[←hop]at HOP HF f0
 clear hop
 obtain⟨F,hF⟩:∃F,F=fold14 x n S:=⟨_,rfl⟩
 rw[←hF]at f0 hfs ⊢
 clear hF
 obtain⟨x0,xa,xb,xc,xn⟩:=x
 unfold Ins.v at HOP ⊢
 dsimp only at o0 o1 a0 a1 b0 b1 c0 c1 n0 n1 HOP ⊢
 obtain⟨U,hU⟩:∃U,U=IntKind.u64.wrap xn:=⟨_,rfl⟩
 have hU0:=u64_bd4 xn
 rw[←hU]at hU0
 have HFS:=Lib.hid hfs
 have HU:=Lib.hid hU
 have u1:IntKind.u64.wrap xn=U:=hU.symm
 clear hfs hU
 go_enter Try.func71,Try.ntmps71
 go_upto_region 1 with fail
 have hA0:AW w [] [] w:=⟨Below.refl _ _,by simp,by simp⟩
 have hA1:=(hA0.put 155 #[.int .u8 x0,.int .u8 xa,.int .u8 xb,.int .u8 xc,.int .i64 xn]).put' (g:=w.heap.size+1) 73 #[.int .u8 0,.int .u8 0,.int .u8 0,.int .u8 0,.int .i64 0] (by simp)
 obtain⟨W,hW⟩:∃W,W=((w.alloc (.cells #[.int .u8 x0,.int .u8 xa,.int .u8 xb,.int .u8 xc,.int .i64 xn] 155)).alloc (.cells #[.int .u8 0,.int .u8 0,.int .u8 0,.int .u8 0,.int .i64 0] 73)):=⟨_,rfl⟩
 rw[←hW]at hA1 ⊢
 clear hW hA0
 obtain⟨⟨z0,z1,z2,z3,z4⟩,zf⟩:=blk5 (hA1.l _ (.tail _ (.head _)))
 dsimp only at z0 z1 z2 z3 z4
 clear zf
 go_wp2_with fail
 clear z0 z1 z2 z3 z4
 go_at_call 102
 refine(HOP.out W).mono ?_
 rintro e W1 ⟨rfl,hb⟩
 have hA2:=hA1.call hb
 clear hb hA1 HOP
 go_wp2_with fail
 go_at_call 103
 refine(HF.out W1).mono ?_
 rintro e W2 ⟨rfl,hb⟩
 have hA3:=hA2.call hb
 clear hb hA2 HF
 go_upto_region 5 with fail
 have hA4:=(hA3.put 73 #[.int .u8 op,.int .u8 0,.int .u8 0,.int .u8 0,.int .i64 0]).put' (g:=W2.heap.size+1) 193 #[.pointer (some ⟨W2.heap.size,1,none⟩),.pointer (some ⟨W2.heap.size,2,none⟩),.pointer (some ⟨W2.heap.size,3,none⟩)] (by simp)
 have hlt:w.heap.size+1 < W2.heap.size:=(hA3.l _ (.head _)).lt
 obtain⟨W3,hW⟩:∃W,W=((W2.alloc (.cells #[.int .u8 op,.int .u8 0,.int .u8 0,.int .u8 0,.int .i64 0] 73)).alloc (.cells #[.pointer (some ⟨W2.heap.size,1,none⟩),.pointer (some ⟨W2.heap.size,2,none⟩),.pointer (some ⟨W2.heap.size,3,none⟩)] 193)):=⟨_,rfl⟩
 have hz3:W3.heap.size=W2.heap.size+2:=by rw[hW];simp
 rw[←hW]at hA4 ⊢
 clear hW hA3
 obtain⟨B,hB⟩:∃B,B=W2.heap.size:=⟨_,rfl⟩
 rw[←hB]at hA4 hlt hz3 ⊢
 have hI0:MI w B ⟨x0,xa,xb,xc,xn⟩ S 0 ⟨op,0,0,0,0⟩ (W3.iter S 0):=⟨hz3 ▸ heap_alloc_new W3 _,(hA4.l _ (.tail _ (.head _))).alloc _,(hA4.l _ (.tail _ (.tail _ (.tail _ (.head _))))).alloc _,(hA4.l _ (.head _)).alloc _,(hA4.l _ (.tail _ (.tail _ (.head _)))).alloc _,hA4.b.alloc hA4.b.size _⟩
 clear hB hA4
 go_wp2
 go_loopw [10] (fun k wr=>∃(p u:Nat) (out:Ins),k=.int .i64 u∧p≤S.size∧u≤p∧F p=(u,out)∧MI w B ⟨x0,xa,xb,xc,xn⟩ S p out wr) (fun _ wr=>itPos S (B+2) wr)
 case atStart=>exact⟨0,0,_,rfl,by omega,by omega,f0,hI0⟩
 case round=>
  obtain⟨p,u,out,rfl,hp,hup,hF,hI⟩:=hrel
  clear hI0 f0 hz3
  have hm:=itPos_eq hI.it
  by_cases hps:p < S.size
  ·have hn:=fun ty=>Lib.run_next_ascii_at (P:=Try.prog) wr (B+2) S p ty hI.it hps (hasc p hps)
   have hI':=hI.next hlt (p+1)
   obtain⟨X,hX⟩:∃X,X=wr.iterAt (B+2) S (p+1):=⟨_,rfl⟩
   rw[←hX]at hn hI'
   clear hX hI
   have hs:=HFS.out p hps
   rw[hF]at hs
   obtain⟨l,hl⟩:∃l,l=S[p]'hps:=⟨_,rfl⟩
   rw[←hl]at hs hn
   obtain⟨z,hz⟩:∃z:Nat,z=l.toNat:=⟨_,rfl⟩
   rw[←hz]at hn
   unfold step14 at hs
   rw[←hz]at hs
   dsimp only at hs
   have HM:=Lib.hid hm
   clear hz hl hF hm hasc
   obtain⟨⟨y0,y1,y2,y3,y4⟩,yf⟩:=blk5 hI'.b2
   dsimp only at y0 y1 y2 y3 y4
   clear yf
   have t0:X.cell? ⟨B+1,0,none⟩=some (.pointer (some ⟨B,1,none⟩)):=hI'.b9.cell 0
   have t1:X.cell? ⟨B+1,1,none⟩=some (.pointer (some ⟨B,2,none⟩)):=hI'.b9.cell 1
   have t2:X.cell? ⟨B+1,2,none⟩=some (.pointer (some ⟨B,3,none⟩)):=hI'.b9.cell 2
   obtain⟨⟨k0,k1,k2,k3,k4⟩,kf⟩:=blk5 hI'.b8
   have hlX:B < X.heap.size:=hI'.b8.lt
   have hlX1:B+1 < X.heap.size:=hI'.b9.lt
   have hlw:w.heap.size < X.heap.size:=hI'.b2.lt
   by_cases h114:z=114
   ·rw[if_pos h114]at hs
    subst h114
    by_cases hu3:u < 3
    ·rw[if_pos hu3]at hs
     have hu:u=0∨u=1∨u=2:=by omega
     rcases hu with rfl|rfl|rfl
     ·have v1:Int.tmod xa 8=xa % 8:=Int.tmod_eq_emod_of_nonneg a0
      have hJ:MI w B ⟨x0,xa,xb,xc,xn⟩ S (p+1) (setF14 out 0 (xa % 8)) _:=((hI'.set hlt 1 (.int .u8 (xa % 8)) _ rfl).alloc (.cells #[.int .u8 xa,.int .u8 xb,.int .u8 xc] 5)).drew
      have HJ:=Lib.hid hJ
      clear hJ
      go_wp2_with go_region
      all_goals (try go_wp2)
      all_goals exact⟨⟨p+1,1,_,rfl,by omega,by omega,hs,HJ.out⟩,by rw[itPos_eq HJ.out.it,HM.out];omega⟩
     ·have v1:Int.tmod xb 8=xb % 8:=Int.tmod_eq_emod_of_nonneg b0
      have hJ:MI w B ⟨x0,xa,xb,xc,xn⟩ S (p+1) (setF14 out 1 (xb % 8)) _:=((hI'.set hlt 2 (.int .u8 (xb % 8)) _ rfl).alloc (.cells #[.int .u8 xa,.int .u8 xb,.int .u8 xc] 5)).drew
      have HJ:=Lib.hid hJ
      clear hJ
      go_wp2_with go_region
      all_goals (try go_wp2)
      all_goals exact⟨⟨p+1,2,_,rfl,by omega,by omega,hs,HJ.out⟩,by rw[itPos_eq HJ.out.it,HM.out];omega⟩
     ·have v1:Int.tmod xc 8=xc % 8:=Int.tmod_eq_emod_of_nonneg c0
      have hJ:MI w B ⟨x0,xa,xb,xc,xn⟩ S (p+1) (setF14 out 2 (xc % 8)) _:=((hI'.set hlt 3 (.int .u8 (xc % 8)) _ rfl).alloc (.cells #[.int .u8 xa,.int .u8 xb,.int .u8 xc] 5)).drew
      have HJ:=Lib.hid hJ
      clear hJ
      go_wp2_with go_region
      all_goals (try go_wp2)
      all_goals exact⟨⟨p+1,3,_,rfl,by omega,by omega,hs,HJ.out⟩,by rw[itPos_eq HJ.out.it,HM.out];omega⟩
    ·rw[if_neg hu3]at hs
     have d3:decide ((u:Int) < 3)=false:=decide_eq_false (by omega)
     have d4:¬(u:Int) < 3:=by omega
     clear y0 y1 y2 y3 y4 t0 t1 t2 k0 k1 k2 k3 k4 kf
     go_wp2_with fail
     go_roundw
     case rel=>exact⟨p+1,u+1,out,by go_num,by omega,by omega,hs,hI'⟩
     case measure=>rw[itPos_eq hI'.it,HM.out];omega
   ·rw[if_neg h114]at hs
    have q1:((z:Int) == 114)=false:=by simp;omega
    have q2:decide ((z:Int)=114)=false:=decide_eq_false (by omega)
    have q3:¬(z:Int)=114:=by omega
    by_cases h110:z=110
    ·rw[if_pos h110]at hs
     subst h110
     clear q1 q2 q3 h114
     go_wp2_with fail
     go_roundw
     case rel=>exact⟨p+1,u,_,by go_num,by omega,by omega,hs,hI'.set hlt 4 _ _ rfl⟩
     case measure=>rw[itPos_eq (hI'.set hlt 4 _ ⟨out.op,out.a,out.b,out.c,xn⟩ rfl).it,HM.out];omega
    ·rw[if_neg h110]at hs
     have r1:((z:Int) == 110)=false:=by simp;omega
     have r2:decide ((z:Int)=110)=false:=decide_eq_false (by omega)
     have r3:¬(z:Int)=110:=by omega
     by_cases h112:z=112
     ·rw[if_pos h112]at hs
      subst h112
      rw[u1]at hs
      have v1:Int.tmod U 16=U % 16:=Int.tmod_eq_emod_of_nonneg hU0.1
      have v2:IntKind.i64.wrap (U % 16)=U % 16:=by simp[IntKind.wrap,IntKind.bits,IntKind.signed];omega
      clear q1 q2 q3 r1 r2 r3 h114 h110
      go_wp2_with fail
      go_roundw
      case rel=>exact⟨p+1,u,_,by go_num,by omega,by omega,hs,hI'.set hlt 4 _ _ rfl⟩
      case measure=>rw[itPos_eq (hI'.set hlt 4 _ ⟨out.op,out.a,out.b,out.c,U % 16⟩ rfl).it,HM.out];omega
     ·rw[if_neg h112]at hs
      have s1:((z:Int) == 112)=false:=by simp;omega
      have s2:decide ((z:Int)=112)=false:=decide_eq_false (by omega)
      have s3:¬(z:Int)=112:=by omega
      rw[u1]at hs
      have v1:Int.tmod U n=U % n:=Int.tmod_eq_emod_of_nonneg hU0.1
      have v2:IntKind.i64.wrap (U % n)=U % n:=by
       have:=Int.emod_nonneg U (b:=n) (by omega)
       have:=Int.emod_lt_of_pos U (b:=n) (by omega)
       simp[IntKind.wrap,IntKind.bits,IntKind.signed];omega
      have v3:IntKind.u64.wrap n=n:=by simp[IntKind.wrap,IntKind.bits,IntKind.signed];omega
      have v4:(n == 0)=false:=by simp;omega
      have v5:¬n=0:=by omega
      have v6:n≠0:=by omega
      have hmax:∀W:World,(Builtin.max_ #[3,3] 3 #[.int .i64 n,.int .i64 1]).run Try.prog W=.ok (.int .i64 n) W:=fun W=>max_i64 _ _ _ _ 0 _ (by split<;>omega) W
      clear h114 h110 h112
      go_wp2_with fail
      go_roundw
      case rel=>exact⟨p+1,u,_,by go_num,by omega,by omega,hs,hI'.set hlt 4 _ _ rfl⟩
      case measure=>rw[itPos_eq (hI'.set hlt 4 _ ⟨out.op,out.a,out.b,out.c,U % n⟩ rfl).it,HM.out];omega
  ·have hpe:p=S.size:=by omega
   have hn:=fun ty=>Lib.run_next_end_at (P:=Try.prog) wr (B+2) S p ty hI.it hps
   have b8:=hI.b8
   have b4:=hI.b4
   have hb:=hI.below
   have hv:(F S.size).2=out:=by rw[←hpe,hF]
   have HV:=Lib.hid hv
   clear hI hF hm hv
   go_wp2_with (first
    | refine wpList_load_row (P:=Try.prog) rfl 73 (.tmp 8) rfl B rfl 73 _ (0,0) _ b8 Try.underlying73 rfl (by kernel_rfl) ?_
    | refine wpList_store_row (P:=Try.prog) rfl 73 (.tmp 4) (.tmp 76) rfl (w.heap.size+1) #[.int .u8 out.op,.int .u8 out.a,.int .u8 out.b,.int .u8 out.c,.int .i64 out.n] rfl rfl 73 _ b4 (by kernel_rfl) rfl (by kernel_rfl) ?_)
   (try simp only[Exit.inBlock,Exit.then])
   refine bodyPost_ret (v:=.agg #[.int .u8 out.op,.int .u8 out.a,.int .u8 out.b,.int .u8 out.c,.int .i64 out.n]) (results_cell_row (P:=Try.prog) (p:=4) (ty:=73) rfl _ _ (w.heap.size+1) 73 _ (0,0) _ rfl (Blk.row b4 _) Try.underlying73 rfl (by kernel_rfl)) rfl ?_
   exact⟨by rw[HV.out],below_setRow hb (Nat.le_succ _) _⟩
end Go.Proofs.Ytjliakjbdcplcaa
end
section
namespace Go.Proofs.Ytjliakjbdcplcaa
open Go.RowKit
def one14 (x:Ins)(M:Int):Ins:=(fold14 x M (formS (xh_ (op14 x.op))) (formS (xh_ (op14 x.op))).size).2
theorem formC_cases (op:Int):xh_ op=0∨xh_ op=1∨xh_ op=2∨xh_ op=3∨xh_ op=4∨xh_ op=5∨xh_ op=6∨xh_ op=7:=by
 unfold xh_;repeat (first |(split;· simp)|simp)
theorem formS_size (k:Nat):(formS k).size≤100:=by
 unfold formS;split<;>decide
theorem formS_asc (k:Nat):∀p (h:p < (formS k).size),((formS k)[p]'h).toNat < 128:=by
 have key:∀k,k < 8→∀p (h:p < (formS k).size),((formS k)[p]'h).toNat < 128:=by decide
 rcases Nat.lt_or_ge k 8 with h|h
 ·exact key k h
 ·intro p hp
  have:formS k=⟨#[]⟩:=by
   unfold formS
   split<;>first|omega|rfl
  rw[this]at hp
  exact absurd hp (Nat.not_lt_zero p)
theorem one14_c (x:Ins)(hx:x.ok)(n:Int)(hn:1≤n∧n≤1000000)(w:World) :
  Calls Try.prog 71 #[x.v,.int .i64 n] w fun e w'=>e=.returned (one14 x n).v∧Below w.heap.size w w':=by
 have hb:=op14_bd x.op
 have hf:=fun w=>form_c (op14 x.op) (by omega) w
 have h0:(xh_ (op14 x.op) != 0)=true:=by simpa using hb.2.2
 rw[h0]at hf
 exact one14_w x hx n hn _ (formS_size _) (formS_asc _) w hf
theorem one14_eq (x:Ins)(M:Int):one14 x M=match xh_ (op14 x.op)with
  | 1=>⟨op14 x.op,x.a % 8,x.b % 8,x.c % 8,0⟩
  | 3=>⟨op14 x.op,x.a % 8,0,0,x.n⟩
  | 4=>⟨op14 x.op,x.a % 8,x.b % 8,0,0⟩
  | 5=>⟨op14 x.op,x.a % 8,x.b % 8,0,IntKind.u64.wrap x.n % 16⟩
  | 6=>⟨op14 x.op,0,0,0,IntKind.u64.wrap x.n % M⟩
  | 7=>⟨op14 x.op,x.a % 8,0,0,IntKind.u64.wrap x.n % M⟩
  | _=>⟨op14 x.op,0,0,0,0⟩:=by
 unfold one14
 rcases formC_cases (op14 x.op)with h|h|h|h|h|h|h|h<;>(rw[h];rfl)
theorem one14_forms (x:Ins)(M:Int):(xh_ (op14 x.op)=1∧one14 x M=⟨op14 x.op,x.a % 8,x.b % 8,x.c % 8,0⟩)∨(xh_ (op14 x.op)=2∧one14 x M=⟨op14 x.op,0,0,0,0⟩) ∨
  (xh_ (op14 x.op)=3∧one14 x M=⟨op14 x.op,x.a % 8,0,0,x.n⟩)∨(xh_ (op14 x.op)=4∧one14 x M=⟨op14 x.op,x.a % 8,x.b % 8,0,0⟩) ∨
  (xh_ (op14 x.op)=5∧one14 x M=⟨op14 x.op,x.a % 8,x.b % 8,0,IntKind.u64.wrap x.n % 16⟩)∨(xh_ (op14 x.op)=6∧one14 x M=⟨op14 x.op,0,0,0,IntKind.u64.wrap x.n % M⟩) ∨
  (xh_ (op14 x.op)=7∧one14 x M=⟨op14 x.op,x.a % 8,0,0,IntKind.u64.wrap x.n % M⟩):=by
 have he:=one14_eq x M
 rcases formC_cases (op14 x.op)with h|h|h|h|h|h|h|h
 ·exact absurd h (op14_bd x.op).2.2
 ·exact .inl ⟨h,by rw[he,h];rfl⟩
 ·exact .inr (.inl ⟨h,by rw[he,h];rfl⟩)
 ·exact .inr (.inr (.inl ⟨h,by rw[he,h];rfl⟩))
 ·exact .inr (.inr (.inr (.inl ⟨h,by rw[he,h];rfl⟩)))
 ·exact .inr (.inr (.inr (.inr (.inl ⟨h,by rw[he,h];rfl⟩))))
 ·exact .inr (.inr (.inr (.inr (.inr (.inl ⟨h,by rw[he,h];rfl⟩)))))
 ·exact .inr (.inr (.inr (.inr (.inr (.inr ⟨h,by rw[he,h];rfl⟩)))))
theorem one14_op (x:Ins)(M:Int):(one14 x M).op=op14 x.op:=by
 rcases one14_forms x M with ⟨_,h⟩|⟨_,h⟩|⟨_,h⟩|⟨_,h⟩|⟨_,h⟩|⟨_,h⟩|⟨_,h⟩<;>rw[h]
theorem ok_mk {op a b c n:Int}(h:(0≤op∧op≤255)∧(0≤a∧a≤255)∧(0≤b∧b≤255)∧(0≤c∧c≤255)∧(-9223372036854775808≤n∧n≤9223372036854775807)):(⟨op,a,b,c,n⟩:Ins).ok:=
 ⟨h.1.1,h.1.2,h.2.1.1,h.2.1.2,h.2.2.1.1,h.2.2.1.2,h.2.2.2.1.1,h.2.2.2.1.2,h.2.2.2.2.1,h.2.2.2.2.2⟩
theorem one14_ok (x:Ins)(hx:x.ok)(M:Int)(hM:1≤M∧M≤1000000):(one14 x M).ok:=by
 have hb:=op14_bd x.op
 have hu:=u64_bd4 x.n
 have hm:=Int.emod_nonneg (IntKind.u64.wrap x.n) (b:=M) (by omega)
 have hm2:=Int.emod_lt_of_pos (IntKind.u64.wrap x.n) (b:=M) (by omega)
 obtain⟨-,-,-,-,-,-,-,-,n0,n1⟩:=hx
 rcases one14_forms x M with ⟨_,h⟩|⟨_,h⟩|⟨_,h⟩|⟨_,h⟩|⟨_,h⟩|⟨_,h⟩|⟨_,h⟩<;>(rw[h];exact ok_mk (by omega))
theorem one14_one (x:Ins)(M:Int)(hM:1≤M∧M≤256):oneE (one14 x M)=0:=by
 have hb:=op14_bd x.op
 have hu:=u64_bd4 x.n
 have hm:=Int.emod_nonneg (IntKind.u64.wrap x.n) (b:=M) (by omega)
 have hm2:=Int.emod_lt_of_pos (IntKind.u64.wrap x.n) (b:=M) (by omega)
 unfold oneE
 rw[one14_op,if_neg hb.2.2]
 rcases one14_forms x M with ⟨h1,h⟩|⟨h1,h⟩|⟨h1,h⟩|⟨h1,h⟩|⟨h1,h⟩|⟨h1,h⟩|⟨h1,h⟩<;>rw[h1,h]
 ·exact Vm.k78_
 ·exact Vm.k78_
 ·exact xs_ (show _∧_∧_ by dsimp only;omega)
 ·exact Vm.k78_
 ·exact Vm.k79_
 ·exact Vm.k79_
 ·exact Vm.k79_
theorem one14_bad (x:Ins)(M:Int)(hM:1≤M∧M≤256):badAt M (one14 x M)=0:=by
 have h1:=one14_one x M hM
 have hb:=op14_bd x.op
 have hm2:=Int.emod_lt_of_pos (IntKind.u64.wrap x.n) (b:=M) (by omega)
 unfold badAt
 rw[if_neg (by simp[h1])]
 by_cases ht:xj_ (one14 x M)=true
 ·rw[if_neg]
  rintro⟨-,h2⟩
  have h3:y7_ (one14 x M)=(one14 x M).n:=by unfold y7_;rw[if_pos ht]
  rw[h3]at h2
  unfold xj_ at ht
  rw[one14_op]at ht
  simp[h1]at ht
  have hc:xh_ (op14 x.op)=6∨xh_ (op14 x.op)=7:=by
   rcases ht with h|h|h<;>rw[h]<;>decide
  rcases one14_forms x M with ⟨h5,h⟩|⟨h5,h⟩|⟨h5,h⟩|⟨h5,h⟩|⟨h5,h⟩|⟨h5,h⟩|⟨h5,h⟩<;>first|omega |(rw[h]at h2;dsimp only at h2;omega)
 ·rw[if_neg (by simp[ht])]
def zq_ (xs:List Ins):List Ins:=(xs.take 40).map (fun x=>one14 x ((xs.take 40).length+1:Nat))++[haltI]
theorem made14_len (xs:List Ins):(zq_ xs).length=(xs.take 40).length+1:=by simp[zq_]
theorem made14_le (xs:List Ins):1≤(zq_ xs).length∧(zq_ xs).length≤41:=by
 rw[made14_len,List.length_take];omega
theorem made14_ok (xs:List Ins)(hx:∀x∈xs,x.ok):∀i∈zq_ xs,i.ok:=by
 intro i hi
 unfold zq_ at hi
 rw[List.mem_append,List.mem_map]at hi
 rcases hi with ⟨x,h,rfl⟩|h
 ·exact one14_ok x (hx x (List.mem_of_mem_take h)) _ (by rw[List.length_take];omega)
 ·rw[List.mem_singleton]at h
  rw[h];exact haltI_ok
theorem made14_bad (xs:List Ins):∀i∈zq_ xs,badAt (zq_ xs).length i=0:=by
 intro i hi
 rw[made14_len]
 unfold zq_ at hi
 rw[List.mem_append,List.mem_map]at hi
 rcases hi with ⟨x,h,rfl⟩|h
 ·exact one14_bad x _ (by rw[List.length_take];omega)
 ·rw[List.mem_singleton]at h
  rw[h]
  unfold badAt
  rw[if_neg (by decide),if_neg (fun h=>absurd h.1 (by decide))]
theorem made14_right (xs:List Ins):(y8_ (zq_ xs)).2=0:=by
 have hl:=made14_le xs
 unfold y8_
 rw[if_neg (by omega),if_neg (by omega)]
 have hK:=checkK_none (p:=zq_ xs) (fun k hk y hy=>made14_bad xs y (List.mem_of_getElem? hy))
 rw[hK]
 have:(zq_ xs).getD ((zq_ xs).length - 1) ⟨0,0,0,0,0⟩=haltI:=by
  rw[made14_len]
  simp[zq_,List.getD]
 rw[this,if_neg (by decide)]
theorem reads_new5 (X:World)(t:TypeId)(a b c d e:Value)(gg:Nat)(h:gg=X.heap.size):yh_ (X.alloc (.cells #[a,b,c,d,e] t)) (gg+1) 5 (some ⟨gg,0,none⟩) 1 [a,b,c,d,e]:=by
 subst h
 refine⟨rfl,fun _=>⟨_,rfl,Nat.lt_succ_self _,fun j u hu=>?_⟩⟩
 rw[Addr.add_lit,cell_of_row _ _ _ _ _ _ (heap_alloc_new X _),Nat.zero_add]
 simpa using hu
set_option maxRecDepth 100000 in
set_option maxHeartbeats 4000000 in
theorem made14_c (xs:List Ins)(hx:∀x∈xs,x.ok)(A:Option Addr)(n c:Nat)(w:World)(hA:yh_ w w.heap.size 5 A n (insV xs))(hc:n≤c)(hcm:c≤9223372036854775807) :
    Calls Try.prog 42 #[.slice A n c] w fun e w'=>∃P,e=.returned P∧w'.ownsRow w.heap.size 73 5 P (zq_ xs).length (insV (zq_ xs))∧Below w.heap.size w w':=by
  have hn:=hA.ins_len
  obtain⟨m,hm⟩:∃m,m=min n 40:=⟨_,rfl⟩
  have hmn:m≤n:=by omega
  have hm40:m≤40:=by omega
  have hml:(xs.take 40).length=m:=by rw[List.length_take];omega
  have hmin:∀W:World,(Builtin.min_ #[3,3] 3 #[.int .i64 (n:Int),.int .i64 40]).run Try.prog W=.ok (.int .i64 (m:Int)) W:=fun W=>min_i64 _ _ _ _ 0 _ (by split<;>omega) W
  have hm0:(0:Int)≤(m:Int):=by omega
  have hmc:(m:Int)≤(c:Int):=by omega
  obtain⟨iS,hi,hz0,hz1,hz2⟩:=info_parts infoIns
  have HL:=Lib.hid hml
  clear hm hml
  go_enter Try.func42,Try.ntmps42
  go_wp2
  go_loopw [3,13] (fun s k wr=>∃(j:Nat) (D:Option Addr) (f:Nat),k=.int .i64 j∧s=.slice D j f∧j≤m∧wr.ownsRow w.heap.size 73 5 (.slice D j f) j (insV ((xs.take j).map fun x=>one14 x (m+1:Nat)))∧Below w.heap.size w wr) (fun _ k _=>m - (intOf k).toNat)
  case atStart=>exact⟨0,none,0,rfl,rfl,by omega,World.ownsRow_nil _ _ _ _,Below.refl _ _⟩
  case round=>
    obtain⟨j,D,f,rfl,rfl,hj,ho,hb⟩:=hrel
    by_cases hlt:j < m
    · obtain⟨ab,off,x,rfl,hab,hxj,c0,c1,c2,c3,c4⟩:=(hA.below hb).ins_at (show j < n by omega)
      have hxo:x.ok:=hx x (List.mem_of_getElem? hxj)
      have hM:1≤((m:Int)+1)∧((m:Int)+1)≤1000000:=by omega
      have w1:wrap64 ((m:Int)+1)=(m:Int)+1:=by unfold wrap64;omega
      have OC:=Lib.hid (fun W=>one14_c x hxo ((m:Int)+1) hM W)
      obtain⟨y,hy⟩:∃y,y=one14 x ((m:Int)+1):=⟨_,rfl⟩
      rw[←hy]at OC
      have hyo:y.ok:=hy ▸ one14_ok x hxo _ hM
      have hstep:insV (((xs.take j).map fun x=>one14 x (m+1:Nat)))++y.cells=insV ((xs.take (j+1)).map fun x=>one14 x (m+1:Nat)):=by
        rw[List.take_add_one,hxj,hy]
        simp[insV]
      have hab2:ab < wr.heap.size:=by have:=hb.size;omega
      have HO:=Lib.hid (And.intro ho (And.intro hstep hb))
      obtain⟨x0,xa,xb,xc,xn⟩:=x
      obtain⟨y0,ya,yb,yc,yn⟩:=y
      unfold Ins.v at OC
      dsimp only at OC c0 c1 c2 c3 c4
      clear ho hstep hb hA hxj hy hxo hyo
      go_wp2_with fail
      go_at_call 71
      refine(OC.out _).mono ?_
      rintro e W1 ⟨rfl,hb1⟩
      have hB1:Below wr.heap.size wr W1:=((Below.refl _ wr).alloc (Nat.le_refl _) _).trans (hb1.mono (by simp))
      have ho1:W1.ownsRow w.heap.size 73 5 (.slice D j f) j (insV ((xs.take j).map fun x=>one14 x (m+1:Nat))):=ownsRow_keep HO.out.1 fun k _ hk=>hB1.block k hk
      have hb2:Below w.heap.size w W1:=HO.out.2.2.trans (hB1.mono HO.out.2.2.size)
      have HQ:=Lib.hid (And.intro ho1 hb2)
      have hrd:yh_ (W1.alloc (.cells #[.int .u8 y0,.int .u8 ya,.int .u8 yb,.int .u8 yc,.int .i64 yn] 73)) (W1.heap.size+1) 5 (some ⟨W1.heap.size,0,none⟩) 1 [.int .u8 y0,.int .u8 ya,.int .u8 yb,.int .u8 yc,.int .i64 yn]:=reads_new5 _ _ _ _ _ _ _ _ rfl
      have hones:∀u∈[Value.int .u8 y0,.int .u8 ya,.int .u8 yb,.int .u8 yc,.int .i64 yn],u.oneCell'=true:=by
        intro u hu;simp at hu;rcases hu with rfl|rfl|rfl|rfl|rfl<;>rfl
      clear hb1 hB1 ho1 hb2
      go_wp2_with (at_builtin
                   refine wpList_append_any _ rfl (.tmp 17) (.tmp 23) _ rfl w.heap.size 73 iS _ 5 16 Try.underlying35 hi hz0 hz1 hz2 rfl (by omega) (.slice D j f) j _ rfl
                     (own_alloc HQ.out.1 _) (W1.heap.size+1) (some ⟨W1.heap.size,0,none⟩) 1 1 _ rfl hrd hones (by unfold maxLen;omega) (by omega) (by have:=HQ.out.2.size;simp;omega) ?_
                   intro v1 w1 hown1 hg1 hat1)
      obtain⟨D1,f1,rfl⟩:=own_slice hown1
      have hf2:=HO.out.2.1
      have hn2:insV ((xs.take j).map fun x=>one14 x (m+1:Nat))++[.int .u8 y0,.int .u8 ya,.int .u8 yb,.int .u8 yc,.int .i64 yn]=insV ((xs.take (j+1)).map fun x=>one14 x (m+1:Nat)):=hf2
      rw[hn2]at hown1
      go_roundw
      case rel=>exact⟨j+1,D1,f1,by go_num,rfl,by omega,hown1,(HQ.out.2.alloc HQ.out.2.size _).grown hg1 (Nat.le_trans HQ.out.2.size (by simp)) (fun k hk=>own_base HQ.out.1 k hk)⟩
      case measure=>simp[intOf];omega
    · have hjm:j=m:=by omega
      subst hjm
      have hfin:insV ((xs.take j).map fun x=>one14 x (j+1:Nat))++haltI.cells=insV (zq_ xs):=by
        have ht:xs.take j=xs.take 40:=by
          have:=HL.out
          rw[List.length_take]at this
          rcases Nat.le_total xs.length 40 with h|h
          · rw[List.take_of_length_le (by omega),List.take_of_length_le h]
          · rw[show j=40 by omega]
        unfold zq_
        rw[HL.out,ht]
        simp[insV]
      have hlen:(zq_ xs).length=j+1:=by rw[made14_len,HL.out]
      have HQ:=Lib.hid (And.intro ho (And.intro hb (And.intro hfin hlen)))
      have hrd:yh_ (wr.alloc (.cells #[.int .u8 1,.int .u8 0,.int .u8 0,.int .u8 0,.int .i64 0] 73)) (wr.heap.size+1) 5 (some ⟨wr.heap.size,0,none⟩) 1 [.int .u8 1,.int .u8 0,.int .u8 0,.int .u8 0,.int .i64 0]:=reads_new5 _ _ _ _ _ _ _ _ rfl
      have hones:∀u∈[Value.int .u8 1,.int .u8 0,.int .u8 0,.int .u8 0,.int .i64 0],u.oneCell'=true:=by
        intro u hu;simp at hu;rcases hu with rfl|rfl|rfl|rfl|rfl<;>rfl
      clear ho hb hfin hlen hA
      go_wp2_with (at_builtin
                   refine wpList_append_any _ rfl (.tmp 26) (.tmp 28) _ rfl w.heap.size 73 iS _ 5 16 Try.underlying35 hi hz0 hz1 hz2 rfl (by omega) (.slice D j f) j _ rfl
                     (own_alloc HQ.out.1 _) (wr.heap.size+1) (some ⟨wr.heap.size,0,none⟩) 1 1 _ rfl hrd hones (by unfold maxLen;omega) (by omega) (by have:=HQ.out.2.1.size;simp;omega) ?_
                   intro v1 w1 hown1 hg1 hat1)
      obtain⟨h1,h2,h3,h4⟩:=HQ.out
      have hn2:insV ((xs.take j).map fun x=>one14 x (j+1:Nat))++[.int .u8 1,.int .u8 0,.int .u8 0,.int .u8 0,.int .i64 0]=insV (zq_ xs):=h3
      rw[hn2]at hown1
      go_ret
      rw[h4]
      exact⟨_,rfl,hown1,(h2.alloc h2.size _).grown hg1 (Nat.le_trans h2.size (by simp)) (fun k hk=>own_base h1 k hk)⟩
end Go.Proofs.Ytjliakjbdcplcaa
end
section
namespace Go.Proofs.Ytjliakjbdcplcaa.Vm
open Go.RowKit
def sMd14:yr_:=fun args h m=>match args with
 | [.sl z i pa k s n' (some cp)]=>match srcV h 5 (.tup []) (.sl z i pa k s n' (some cp))with
  | some (c,n,f,rd)=>
    some (c∧n=n'∧(∀q,q < n→isIns (f q)=true)∧(∀x∈ls zg_ n f,x.ok)∧max n cp≤9223372036854775807,.sl m m [] 5 0 (zq_ (ls zg_ n f)).length none,rd,[(m,.own 73 (.arr (zq_ (ls zg_ n f)).length 5 (prS (zq_ (ls zg_ n f)))) false)])
  | _=>none
 | _=>none
theorem sMd14_ok:zh_ Try.prog 42 sMd14:=by
 refine⟨zf_ (by kernel_rfl),fun args h m c v rd wr hs hm hc w0 M β h' w R hrd hwr hst=>?_⟩
 unfold sMd14 at hs
 split at hs
 ·rename_i z i pa k' s n' cp
  split at hs
  ·rename_i c' n f rd' ha
   simp only[Option.some.injEq,Prod.mk.injEq]at hs
   obtain⟨rfl,rfl,rfl,rfl⟩:=hs
   obtain⟨hc1,hn,hi,hok,hcp⟩:=hc
   obtain⟨A,cap,hden,hnc,hr⟩:=zk_ R ha hc1 hrd (by omega)
   rw[elems_ins hi]at hr
   have hcap:cap≤9223372036854775807:=by
    simp only[SV.den,Option.getD_some]at hden
    injection hden with _ _ h3
    omega
   simp only[denL,hden]
   refine(made14_c (ls zg_ n f) hok A n cap w hr hnc hcap).mono fun e w' he=>?_
   obtain⟨p,rfl,ho,hb⟩:=he
   have hmd:h' m=.dead:=(hwr _ (.head _)).trans (hm m (Nat.le_refl _))
   obtain ⟨e', R', hv⟩ := (R.below hb).made (f := prS (zq_ (ls zg_ n f))) hmd ho R.size (elems_prS _) prS_stable (fun g i a' hg hmi hai e=>by
    have:=R.lt i a' hmi hai
    obtain⟨_,⟨rfl,_⟩|⟨g',cap',cur,rfl,hg',_⟩⟩:=ho
    ·cases hg
    ·simp[Value.ownBlock]at hg
     omega)
   exact⟨_,z4_ hmd,R',stable_new,by rw[hv]⟩
  ·cases hs
 ·cases hs
end Go.Proofs.Ytjliakjbdcplcaa.Vm
end

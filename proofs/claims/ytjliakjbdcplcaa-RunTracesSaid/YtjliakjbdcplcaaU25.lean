import Derived.Test.YtjliakjbdcplcaaU1
import Derived.Test.YtjliakjbdcplcaaU24
set_option linter.unusedSimpArgs false
set_option linter.unusedVariables false
set_option maxRecDepth 100000
set_option maxHeartbeats 4000000
section
namespace Go.Proofs.Ytjliakjbdcplcaa.Vm
open Go.RowKit
attribute [local push_cast] eqB eqBL allB prS zt_ i64S xo_ y3_ y2_ y1_ y0_ yz_ xn_ yy_ yx_ yw_ zy_ zv_ zw_ zu_ y5_ y4_ iOf
def sRunA:yr_:=fun args h m=>match args with
 | [_,_,_,_,_,.nat .i64 2]=>sRunG args h m
 | _=>sRunB args h m
theorem sRunA_ok:zh_ Try.prog 29 sRunA:=by
 refine⟨zf_ (by kernel_rfl),fun args h m c v rd wr hs hm hc w0 M β h' w R hrd hwr hst=>?_⟩
 unfold sRunA at hs
 split at hs
 ·exact sRunG_ok.2 _ h m c v rd wr hs hm hc w0 M β h' w R hrd hwr hst
 ·exact sRunB_ok.2 _ h m c v rd wr hs hm hc w0 M β h' w R hrd hwr hst
def cAw:FuncId→Option yr_:=xb_ [(29,sRunA),(16,sNewG),(17,rGo),(18,rState),(22,rBack),(19,rUsed),(20,sEqI64)]
theorem cAw_ok:∀f S,cAw f=some S→zh_ Try.prog f S:=zn_ ⟨sRunA_ok,sNewG_ok,rGo_ok,rState_ok,rBack_ok,rUsed_ok,sEqI64_ok,trivial⟩
theorem ls_one {α : Type}(g:SV→α)(f:Nat→SV):ls g 1 f=[g (f 0)]:=rfl
theorem ls_two {α : Type}(g:SV→α)(f:Nat→SV):ls g 2 f=[g (f 0),g (f 1)]:=rfl
theorem ls_three {α : Type}(g:SV→α)(f:Nat→SV):ls g 3 f=[g (f 0),g (f 1),g (f 2)]:=rfl
theorem nat_zero_int:((0:Nat):Int)=0:=rfl
theorem insOf_agg (a b c d e:SV):zg_ (.agg [a,b,c,d,e])=⟨iOf a,iOf b,iOf c,iOf d,iOf e⟩:=rfl
theorem toNat2:Int.toNat 2=2:=rfl
theorem awake_lit:yc_ Try.prog 12 [] [.gone] (.bool true) [.gone]:=by
 have k1:∀x∈([⟨34,0,0,3,0⟩,⟨1,0,0,0,0⟩]:List Ins),x.ok:=by intro x hx;simp only[List.mem_cons,List.not_mem_nil,or_false]at hx;rcases hx with rfl|rfl<;>(refine⟨?_,?_,?_,?_,?_,?_,?_,?_,?_,?_⟩<;>decide)
 have k2:∀x∈([⟨9,0,0,0,0⟩,⟨1,0,0,0,0⟩]:List Ins),x.ok:=by intro x hx;simp only[List.mem_cons,List.not_mem_nil,or_false]at hx;rcases hx with rfl|rfl<;>(refine⟨?_,?_,?_,?_,?_,?_,?_,?_,?_,?_⟩<;>decide)
 have k3:∀x∈([⟨3,4,0,0,7⟩,⟨6,4,3,0,0⟩,⟨2,0,0,0,0⟩]:List Ins),x.ok:=by intro x hx;simp only[List.mem_cons,List.not_mem_nil,or_false]at hx;rcases hx with rfl|rfl|rfl<;>(refine⟨?_,?_,?_,?_,?_,?_,?_,?_,?_,?_⟩<;>decide)
 have b1:(xd_ [⟨34,0,0,3,0⟩,⟨1,0,0,0,0⟩] ⟨0,0,0,1,0⟩ (ya_ 0 0 0 [] 0) 2).bad=0:=by kernel_rfl
 have t1:(xd_ [⟨34,0,0,3,0⟩,⟨1,0,0,0,0⟩] ⟨0,0,0,1,0⟩ (ya_ 0 0 0 [] 0) 2).tr.length=2:=by kernel_rfl
 have a1:(xd_ [⟨34,0,0,3,0⟩,⟨1,0,0,0,0⟩] ⟨0,0,0,1,0⟩ (ya_ 0 0 0 [] 0) 2).at_=1:=by kernel_rfl
 have b2:(xd_ [⟨34,0,0,3,0⟩,⟨1,0,0,0,0⟩] ⟨0,0,0,1,0⟩ (ya_ 0 0 0 [] 0) 1).bad=190:=by kernel_rfl
 have t2:(xd_ [⟨34,0,0,3,0⟩,⟨1,0,0,0,0⟩] ⟨0,0,0,1,0⟩ (ya_ 0 0 0 [] 0) 1).tr.length=1:=by kernel_rfl
 have a2:(xd_ [⟨34,0,0,3,0⟩,⟨1,0,0,0,0⟩] ⟨0,0,0,1,0⟩ (ya_ 0 0 0 [] 0) 1).at_=1:=by kernel_rfl
 have n2:(xd_ [⟨34,0,0,3,0⟩,⟨1,0,0,0,0⟩] ⟨0,0,0,1,0⟩ (ya_ 0 0 0 [] 0) 1).bad≠0:=by rw[b2];decide
 have b3:(xd_ [⟨34,0,0,3,0⟩,⟨1,0,0,0,0⟩] ⟨0,0,0,1,0⟩ (ya_ 0 0 0 [] 0) 0).bad=190:=by kernel_rfl
 have t3:(xd_ [⟨34,0,0,3,0⟩,⟨1,0,0,0,0⟩] ⟨0,0,0,1,0⟩ (ya_ 0 0 0 [] 0) 0).tr.length=0:=by kernel_rfl
 have a3:(xd_ [⟨34,0,0,3,0⟩,⟨1,0,0,0,0⟩] ⟨0,0,0,1,0⟩ (ya_ 0 0 0 [] 0) 0).at_=0:=by kernel_rfl
 have n3:(xd_ [⟨34,0,0,3,0⟩,⟨1,0,0,0,0⟩] ⟨0,0,0,1,0⟩ (ya_ 0 0 0 [] 0) 0).bad≠0:=by rw[b3];decide
 have b4:(xd_ [⟨9,0,0,0,0⟩,⟨1,0,0,0,0⟩] ⟨0,0,0,1,0⟩ (ya_ 0 0 0 [] 0) 100).bad=190:=by kernel_rfl
 have t4:(xd_ [⟨9,0,0,0,0⟩,⟨1,0,0,0,0⟩] ⟨0,0,0,1,0⟩ (ya_ 0 0 0 [] 0) 100).tr.length=100:=by kernel_rfl
 have a4:(xd_ [⟨9,0,0,0,0⟩,⟨1,0,0,0,0⟩] ⟨0,0,0,1,0⟩ (ya_ 0 0 0 [] 0) 100).at_=0:=by kernel_rfl
 have n4:(xd_ [⟨9,0,0,0,0⟩,⟨1,0,0,0,0⟩] ⟨0,0,0,1,0⟩ (ya_ 0 0 0 [] 0) 100).bad≠0:=by rw[b4];decide
 have b5:(xd_ [⟨3,4,0,0,7⟩,⟨6,4,3,0,0⟩,⟨2,0,0,0,0⟩] ⟨0,0,0,1,0⟩ (ya_ 0 0 0 [0] 0) 9).bad=184:=by kernel_rfl
 have t5:(xd_ [⟨3,4,0,0,7⟩,⟨6,4,3,0,0⟩,⟨2,0,0,0,0⟩] ⟨0,0,0,1,0⟩ (ya_ 0 0 0 [0] 0) 9).tr.length=3:=by kernel_rfl
 have a5:(xd_ [⟨3,4,0,0,7⟩,⟨6,4,3,0,0⟩,⟨2,0,0,0,0⟩] ⟨0,0,0,1,0⟩ (ya_ 0 0 0 [0] 0) 9).at_=2:=by kernel_rfl
 have n5:(xd_ [⟨3,4,0,0,7⟩,⟨6,4,3,0,0⟩,⟨2,0,0,0,0⟩] ⟨0,0,0,1,0⟩ (ya_ 0 0 0 [0] 0) 9).bad≠0:=by rw[b5];decide
 have p3:PG [⟨3,4,0,0,7⟩,⟨6,4,3,0,0⟩,⟨2,0,0,0,0⟩]:=by exact⟨k3,by kernel_rfl⟩
 have v3:VOk ⟨0,0,0,1,0⟩:=by exact⟨by decide,by decide,by decide,by decide,by decide,by decide⟩
 have s3:SG [⟨3,4,0,0,7⟩,⟨6,4,3,0,0⟩,⟨2,0,0,0,0⟩] (ya_ 0 0 0 [0] 0):=by exact⟨by decide,by decide,by decide,by decide,by decide,by decide⟩
 have e3:openE [⟨3,4,0,0,7⟩,⟨6,4,3,0,0⟩,⟨2,0,0,0,0⟩] ⟨0,0,0,1,0⟩ (ya_ 0 0 0 [0] 0)=0:=by kernel_rfl
 have g1:(runA [⟨3,4,0,0,7⟩,⟨6,4,3,0,0⟩,⟨2,0,0,0,0⟩] ⟨0,0,0,1,0⟩ 2 (ya_ 0 0 0 [0] 0) Ins0 [] 0).bad=190:=by kernel_rfl
 have g2:(runA [⟨3,4,0,0,7⟩,⟨6,4,3,0,0⟩,⟨2,0,0,0,0⟩] ⟨0,0,0,1,0⟩ 2 (ya_ 0 0 0 [0] 0) Ins0 [] 0).tr.length=2:=by kernel_rfl
 have g3:(runA [⟨3,4,0,0,7⟩,⟨6,4,3,0,0⟩,⟨2,0,0,0,0⟩] ⟨0,0,0,1,0⟩ 2 (ya_ 0 0 0 [0] 0) Ins0 [] 0).s.cells=[7]:=by kernel_rfl
 refine zm_ (fn:=Try.f12) 1 186 0 rfl rfl rfl rfl rfl trivial rfl fun w0 M E hro=>?_
 repeat' (first|refine Ctl.h ?_ |((with_reducible intro hif);first |(focus (cases hif;done)) |((try simp only[JH]at hif);try exact hy_)) |((with_reducible first|apply J22 cAw_ok za_|apply J23 fol cAw_ok za_|apply J24);(·rfl);(· (simp only[push_cast,↓JP,Nat.reduceAdd,Nat.reduceEqDiff,Nat.reduceLT,Nat.reduceMul,Nat.reduceLeDiff,reduceCtorEq,reduceIte,↓JK,JM,JE,JB,cAw,sRunA,sRunG,sRunB,ls_one,ls_two,ls_three,insOf_agg,nat_zero_int,toNat2,inR,inN,b1,t1,a1,b2,t2,a2,b3,t3,a3,b4,t4,a4,b5,t5,a5,g1,g2,g3];rfl));(try kernel_rfl);(try (focus (first|exact True.intro |((try simp only[JS,implies_true,forall_const,z3_,z5_,kndOf,iOf,insOf_agg,ls_one,ls_two,ls_three,ls_zero,nat_zero_int,Nat.zero_add,List.getD_cons_zero,List.getD_cons_succ,Int.cast_ofNat_Int,beg_fold]);(repeat' (first|exact True.intro|assumption|apply And.intro|decide |(intro q hq;first|rfl|exact hq.elim|exact k1 q hq|exact k2 q hq|exact k3 q hq |((rcases q with _|_|_|q)<;>first|rfl |(exfalso;revert hq;simp;done)))));done) |((try simp only[JS,implies_true,forall_const,z3_,z5_,kndOf,inR,inN]);(repeat' (first|assumption|exact True.intro|omega|apply And.intro));done)))))|fail)
 apply At.endsRet za_ (fn:=Try.f12) (rs:=[.tmp 0]) Anc.refl hro (lb_ rfl) rfl
 ·simp only[push_cast,↓JP,Nat.reduceAdd,Nat.reduceEqDiff,Nat.reduceLT,Nat.reduceMul,Nat.reduceLeDiff,reduceCtorEq,reduceIte,↓JK,resV,resV1,ls_one,ls_two,ls_three];rfl
 ·exact k6_
 ·exact k7_
 ·rfl
 ·exact k84_
 ·exact k9_
 ·first|exact fun β=>rfl |(intro β;kernel_rfl)
 ·exact k84_
def sAw19:yr_:=fun args h m=>match args with
 | []=>some (True,.bool true,[],[])
 | _=>none
theorem sAw19_ok:zh_ Try.prog 12 sAw19:=by
 refine⟨zf_ (by kernel_rfl),fun args h m c v rd wr hs hm hc w0 M β h' w R hrd hwr hst=>?_⟩
 unfold sAw19 at hs
 split at hs
 ·skip
  simp only[Option.some.injEq,Prod.mk.injEq]at hs
  obtain⟨rfl,rfl,rfl,rfl⟩:=hs
  refine y9_ (views:=[]) (awake_lit) ?_ R hm hwr ?_ ?_ ?_
  ·intro x hx;cases hx
  ·intro β1 hv
   simp only[denL,yp_,yo_,yn_,z6_,zb_]
  ·exact k84_
  ·exact k84_
 ·cases hs
end Go.Proofs.Ytjliakjbdcplcaa.Vm
end

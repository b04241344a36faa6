import Derived.Test.YtjliakjbdcplcaaGreatQ1
import Derived.Test.YtjliakjbdcplcaaGreatQ7
import Derived.Test.YtjliakjbdcplcaaGreatQ23
import Derived.Test.YtjliakjbdcplcaaGreatQ26
import Derived.Test.YtjliakjbdcplcaaGreatQ28
set_option linter.unusedSimpArgs false
set_option linter.unusedVariables false
set_option maxRecDepth 100000
set_option maxHeartbeats 4000000
section
namespace Go.Proofs.YtjliakjbdcplcaaGreat.Vm
open Go.RowKit
section
variable {P:List Ins} {v:Evi}
theorem runA_le:∀(n:Nat) (s:Sta) (x:Ins) (tr:List Int) (a:Int),tr.length≤(xq_ P v n s x tr a).tr.length∧(xq_ P v n s x tr a).tr.length≤tr.length+n
 | 0,s,x,tr,a=>by
  unfold xq_
  split<;>simp
 | n+1,s,x,tr,a=>by
  unfold xq_
  split
  ·simp
  ·split
   ·have:=runA_le n (xx_ P v s) (stepX P s x) (tr++[s.at_]) s.at_
    simp at this
    omega
   ·simp
theorem runA_same:∀(n m:Nat) (s:Sta) (x:Ins) (tr:List Int) (a:Int),(xq_ P v n s x tr a).bad≠190→xq_ P v (n+m) s x tr a=xq_ P v n s x tr a
 | 0,m,s,x,tr,a,h=>by
  cases he:s.ended
  ·rw[x7_ he]at h;exact absurd rfl h
  ·rw[x9_ he,x9_ he]
 | n+1,m,s,x,tr,a,h=>by
  cases he:s.ended
  ·by_cases hs:x3_ P v s=0
   ·rw[runA_go he (Nat.succ_pos n) hs]at h ⊢
    rw[show n+1+m=(n+m)+1 by omega,runA_go he (Nat.succ_pos _) hs]
    exact runA_same n m _ _ _ _ h
   ·rw[show n+1+m=(n+m)+1 by omega,runA_bad he (Nat.succ_pos _) hs,runA_bad he (Nat.succ_pos _) hs]
  ·rw[x9_ he,x9_ he]
theorem runA_fuel:∀(n:Nat) (s:Sta) (x:Ins) (tr:List Int) (a:Int),(xq_ P v n s x tr a).bad=190→(xq_ P v n s x tr a).s.ended=false∧(xq_ P v n s x tr a).tr.length=tr.length+n∧∀m,∃a',xq_ P v (n+m) s x tr a=xq_ P v m (xq_ P v n s x tr a).s (xq_ P v n s x tr a).x (xq_ P v n s x tr a).tr a'
 | 0,s,x,tr,a,h=>by
  cases he:s.ended
  ·rw[x7_ he]
   exact⟨he,rfl,fun m=>⟨a,by rw[Nat.zero_add]⟩⟩
  ·rw[x9_ he]at h;cases h
 | n+1,s,x,tr,a,h=>by
  cases he:s.ended
  ·by_cases hs:x3_ P v s=0
   ·rw[runA_go he (Nat.succ_pos n) hs]at h ⊢
    obtain⟨h1,h2,h3⟩:=runA_fuel n _ _ _ _ h
    refine⟨h1,?_,fun m=>?_⟩
    ·show (xq_ P v n (xx_ P v s) (stepX P s x) (tr++[s.at_]) s.at_).tr.length=_
     rw[h2];simp;omega
    ·rw[show n+1+m=(n+m)+1 by omega,runA_go he (Nat.succ_pos _) hs]
     exact h3 m
   ·rw[runA_bad he (Nat.succ_pos _) hs]at h
    exact absurd h (stepE_ne190 P v s)
  ·rw[x9_ he]at h;cases h
variable {s:Sta} {F n:Int}
theorem ropE_of (hO:yt_ P v s=0)(h0:0≤F)(h1:F≤4096):ropE P v s F=0:=by
 unfold ropE
 have:rrE F=0:=by unfold rrE;rw[if_neg (by omega)]
 rw[if_pos this];exact hO
theorem runO_of (hO:yt_ P v s=0)(h0:0≤F)(h1:F≤4096):xp_ P v s F=xq_ P v F.toNat s Ins0 [] 0:=by
 unfold xp_;rw[if_pos (ropE_of hO h0 h1)]
theorem runO_le (hO:yt_ P v s=0)(h0:0≤F)(h1:F≤4096):((xp_ P v s F).tr.length:Int)≤F:=by
 rw[runO_of hO h0 h1]
 have:=(runA_le (P:=P) (v:=v) F.toNat s Ins0 [] 0).2
 simp at this
 omega
end
theorem runA_good {P:List Ins}{v:Evi}(hP:PG P):∀(n:Nat) (s:Sta) (x:Ins) (tr:List Int) (a:Int),SG P s→SG P (xq_ P v n s x tr a).s
 | 0,s,x,tr,a,h=>by
  unfold xq_
  split<;>exact h
 | n+1,s,x,tr,a,h=>by
  unfold xq_
  split
  ·exact h
  ·split
   ·exact runA_good hP n _ _ _ _ (stepS_good h hP)
   ·exact stepS_good h hP
theorem runO_good' {P:List Ins}{v:Evi}{s:Sta}{F:Int}(hx:∀x∈P,x.ok)(hO:yt_ P v s=0)(hn:s.sends.length≤1000000)(h0:0≤F)(h1:F≤4096):SG P (xp_ P v s F).s:=by
 rw[runO_of hO h0 h1]
 have q:=openE_zero hO
 exact runA_good ⟨hx,q.1⟩ _ _ _ _ _ (SG.of q.2.2 hn)
end Go.Proofs.YtjliakjbdcplcaaGreat.Vm
end
section
namespace Go.Proofs.YtjliakjbdcplcaaGreat.Vm
open Go.RowKit
section
variable {P:List Ins} {v:Evi}
theorem doS_end {s:Sta}{x:Ins}(he:doE s v x=0)(h:(doS s v x).ended=true)(h0:s.ended=false):(doS s v x).at_=s.at_:=by
 unfold doS at h ⊢
 simp only[he,ne_eq,not_true_eq_false,if_false]at h ⊢
 by_cases q:x.op=1
 ·simp only[q,if_true]
 ·simp only[q,if_false]at h ⊢
  exfalso
  repeat' split at h
  all_goals first |(rw[h0]at h;cases h) |(simp only[Sta.put]at h;rw[h0]at h;cases h)
theorem stepS_end {s:Sta}(h0:s.ended=false)(he:x3_ P v s=0)(h:(xx_ P v s).ended=true):(xx_ P v s).at_=s.at_:=by
 unfold x3_ at he
 unfold xx_ at h ⊢
 rw[h0]at he h ⊢
 simp only[Bool.false_eq_true,if_false]at he h ⊢
 exact doS_end he h h0
theorem stepS_bad {s:Sta}(h0:s.ended=false)(he:x3_ P v s≠0):xx_ P v s=s:=by
 unfold x3_ at he
 unfold xx_
 rw[h0]at he ⊢
 simp only[Bool.false_eq_true,if_false]at he ⊢
 exact doS_bad he
theorem runA_at:∀(n:Nat) (s:Sta) (x:Ins) (tr:List Int) (a:Int),(s.ended=true→a=s.at_)→(xq_ P v n s x tr a).at_=(xq_ P v n s x tr a).s.at_∧(xq_ P v n s x tr a).s.ended=decide ((xq_ P v n s x tr a).bad=0)
 | 0,s,x,tr,a,h=>by
  cases he:s.ended
  ·rw[x7_ he];exact⟨rfl,by simp[he]⟩
  ·rw[x9_ he];exact⟨h he,by simp[he]⟩
 | n+1,s,x,tr,a,h=>by
  cases he:s.ended
  ·by_cases hs:x3_ P v s=0
   ·rw[runA_go he (Nat.succ_pos n) hs]
    exact runA_at n _ _ _ _ (fun h'=>(stepS_end he hs h').symm)
   ·rw[runA_bad he (Nat.succ_pos n) hs]
    dsimp only
    rw[stepS_bad he hs]
    exact⟨rfl,by simp[he,hs]⟩
  ·rw[x9_ he];exact⟨h he,by simp[he]⟩
theorem runA_a {n:Nat}{s:Sta}{x:Ins}{tr:List Int}{a b:Int}(h:s.ended=false):xq_ P v n s x tr a=xq_ P v n s x tr b:=by
 cases n with
 | zero=>rw[x7_ h,x7_ h]
 | succ n=>
  by_cases hs:x3_ P v s=0
  ·rw[runA_go h (Nat.succ_pos n) hs,runA_go h (Nat.succ_pos n) hs]
  ·rw[runA_bad h (Nat.succ_pos n) hs,runA_bad h (Nat.succ_pos n) hs]
theorem runA_pre:∀(n:Nat) (s:Sta) (x:Ins) (tr t:List Int) (a:Int),xq_ P v n s x (tr++t) a={ xq_ P v n s x t a with tr:=tr++(xq_ P v n s x t a).tr }
 | 0,s,x,tr,t,a=>by
  cases he:s.ended
  ·rw[x7_ he,x7_ he]
  ·rw[x9_ he,x9_ he]
 | n+1,s,x,tr,t,a=>by
  cases he:s.ended
  ·by_cases hs:x3_ P v s=0
   ·rw[runA_go he (Nat.succ_pos n) hs,runA_go he (Nat.succ_pos n) hs,List.append_assoc]
    exact runA_pre n _ _ _ _ _
   ·rw[runA_bad he (Nat.succ_pos n) hs,runA_bad he (Nat.succ_pos n) hs,List.append_assoc]
  ·rw[x9_ he,x9_ he]
theorem runA_cut {n:Nat}{s:Sta}(h:(xq_ P v n s Ins0 [] 0).bad=190)(m:Nat):xq_ P v (n+m) s Ins0 [] 0={ xq_ P v m (xq_ P v n s Ins0 [] 0).s (xq_ P v n s Ins0 [] 0).x [] 0 with tr:=(xq_ P v n s Ins0 [] 0).tr++(xq_ P v m (xq_ P v n s Ins0 [] 0).s (xq_ P v n s Ins0 [] 0).x [] 0).tr }:=by
 obtain⟨h1,h2,h3⟩:=runA_fuel n s Ins0 [] 0 h
 obtain⟨a',e⟩:=h3 m
 rw[e,runA_a (b:=0) h1]
 have:=runA_pre (P:=P) (v:=v) m (xq_ P v n s Ins0 [] 0).s (xq_ P v n s Ins0 [] 0).x (xq_ P v n s Ins0 [] 0).tr [] 0
 rw[List.append_nil]at this
 exact this
structure Cut (P:List Ins) (v:Evi) (s0:Sta) (F:Nat) (n:Nat) (W:RR):Prop where
 le:n≤F
 run:xq_ P v n s0 Ins0 [] 0=W
 bad:W.bad=190
theorem Cut.start {s0:Sta}{F:Nat}(h:s0.ended=false):Cut P v s0 F 0 ⟨[],s0.at_,190,s0,Ins0⟩:=⟨Nat.zero_le _,x7_ h,rfl⟩
theorem Cut.len {s0:Sta}{F n:Nat}{W:RR}(h:Cut P v s0 F n W):W.tr.length=n:=by
 have:=(runA_fuel (P:=P) (v:=v) n s0 Ins0 [] 0 (by rw[h.run];exact h.bad)).2.1
 rw[h.run]at this
 simpa using this
theorem Cut.on {s0:Sta}{F n m:Nat}{W Q R:RR}(h:Cut P v s0 F n W)(hm:n+m≤F)(hQ:xq_ P v m W.s W.x [] 0=Q)(hb:Q.bad=190):Cut P v s0 F (n+m) { Q with tr:=W.tr++Q.tr }:=by
 refine⟨hm,?_,hb⟩
 have:=runA_cut (P:=P) (v:=v) (n:=n) (s:=s0) (by rw[h.run];exact h.bad) m
 rw[h.run,hQ]at this
 exact this
theorem Cut.all {s0:Sta}{F:Nat}{W R:RR}(h:Cut P v s0 F F W)(hR:xq_ P v F s0 Ins0 [] 0=R):W=R:=h.run.symm.trans hR
theorem Cut.done {s0:Sta}{F n m:Nat}{W Q R:RR}(h:Cut P v s0 F n W)(hm:n+m≤F)(hQ:xq_ P v m W.s W.x [] 0=Q)(hb:Q.bad≠190)(hR:xq_ P v F s0 Ins0 [] 0=R):R={ Q with tr:=W.tr++Q.tr }:=by
 have:=runA_cut (P:=P) (v:=v) (n:=n) (s:=s0) (by rw[h.run];exact h.bad) (F - n)
 rw[h.run,show n+(F - n)=F by omega,hR]at this
 have h2:=runA_same (P:=P) (v:=v) m (F - n - m) W.s W.x [] 0 (by rw[hQ];exact hb)
 rw[show m+(F - n - m)=F - n by omega,hQ]at h2
 rw[h2]at this
 exact this
end
end Go.Proofs.YtjliakjbdcplcaaGreat.Vm
end
section
namespace Go.Proofs.YtjliakjbdcplcaaGreat.Vm
open Go.RowKit
theorem eqInt_lit (xs ys:List Int)(p1 p2:Nat)(hx:xs.length≤281474976710656):zs_ Tryz.prog 29 [.sl 1 2 [] 1 0 xs.length (some p1),.sl 3 4 [] 1 0 ys.length (some p2)] [.gone,.gone,.ro (.arr xs.length 1 (zp_ xs)),.gone,.ro (.arr ys.length 1 (zp_ ys))] (.bool (eqL xs ys)) [.gone]:=by
 refine zf_ (fn:=Tryz.f29) 5 26 0 rfl rfl rfl rfl rfl u2_ rfl fun w0 M E hro=>?_
 repeat' (first|refine Ctl.h ?_ |((with_reducible intro hif);first |(focus (cases hif;done)) |((try simp only[JH]at hif);try exact hy_)) |((with_reducible first|apply J22 zv_ za_|apply J23 fol zv_ za_|apply J24);(·rfl);(· exact k13_);(try kernel_rfl);try exact yr_)|fail)
 ·have hne:xs≠ys:=fun e=>hif (by rw[e])
  apply At.endsRet za_ (fn:=Tryz.f29) (rs:=[.tmp 4]) Anc.refl hro (lb_ rfl) rfl
  ·exact k5_
  ·exact k6_
  ·exact k7_
  ·rfl
  ·exact k8_
  ·exact k9_
  ·rw[eqL_false hne];exact fun β=>rfl
  ·exact k8_
 ·refine WF.loopAt (fun j=>j≤xs.length∧∀q,q < j→xs.getD q 0=ys.getD q 0) (fun j=>[(0,.sl 1 2 [] 1 0 xs.length (some p1)),(1,.sl 3 4 [] 1 0 ys.length (some p2)),(12,.nat .i64 xs.length),(13,.nat .i64 j)]) (fun j=>[.gone,.gone,.ro (.arr xs.length 1 (zp_ xs)),.gone,.ro (.arr ys.length 1 (zp_ ys))]) (fun j=>xs.length - j) 0 ⟨Nat.zero_le _,fun q hq=>absurd hq (Nat.not_lt_zero q)⟩ ?_ ?_ rfl ?_ ?_ rfl ?_
  ·exact we_
  ·exact k7_
  ·exact k8_
  ·exact k8_
  have hlen:=hif
  rintro j ⟨hj,heq⟩
  repeat' (first|refine Ctl.h ?_ |((with_reducible intro hif);first |(focus (cases hif;done)) |((try simp only[JH]at hif);try exact hy_)) |((with_reducible first|apply J22 zv_ za_|apply J23 fol zv_ za_|apply J24);(·rfl);(· (simp only[push_cast,↓JP,Nat.reduceAdd,Nat.reduceEqDiff,Nat.reduceLT,Nat.reduceMul,Nat.reduceLeDiff,reduceCtorEq,reduceIte,zp_,inN];rfl));(try kernel_rfl);try exact k14_)|fail)
  ·have hne:xs≠ys:=by rintro rfl;simp at hif
   apply At.endsRet za_ (fn:=Tryz.f29) (rs:=[.tmp 4]) Anc.refl hro (lb_ rfl) rfl
   ·exact k5_
   ·exact k6_
   ·exact k7_
   ·rfl
   ·exact k8_
   ·exact k9_
   ·rw[eqL_false hne];exact fun β=>rfl
   ·exact k8_
  ·exact d54_
  ·have hjn:j=xs.length:=by omega
   subst hjn
   have he:xs=ys:=ext_getD 0 hlen heq
   apply At.endsRet za_ (fn:=Tryz.f29) (rs:=[.tmp 4]) Anc.refl hro (lb_ rfl) rfl
   ·exact k5_
   ·exact k6_
   ·exact k7_
   ·rfl
   ·exact k8_
   ·exact k9_
   ·rw[eqL_true he];exact fun β=>rfl
   ·exact k8_
def sEqInt:yn_:=fun args h m=>match args with
 | [v1,v2]=>match xm_ h 1 (.tup []) v1,xm_ h 1 (.tup []) v2 with
  | some (c1,n1,f1,r1),some (c2,n2,f2,r2)=>some (c1∧c2∧(∀q,q < n1→isI .i64 (f1 q)=true)∧(∀q,q < n2→isI .i64 (f2 q)=true)∧((ls iOf n1 f1).length≤281474976710656),.bool (eqL (ls iOf n1 f1) (ls iOf n2 f2)),r1++r2,[])
  | _,_=>none
 | _=>none
theorem sEqInt_ok:zi_ Tryz.prog 29 sEqInt:=by
 refine⟨zg_ (by kernel_rfl),fun args h m c v rd wr hs hm hc w0 M β h' w R hrd hwr hst=>?_⟩
 unfold sEqInt at hs
 split at hs
 ·rename_i v1 v2
  split at hs
  ·rename_i c1 n1 f1 r1 c2 n2 f2 r2 a1 a2
   simp only[Option.some.injEq,Prod.mk.injEq]at hs
   obtain⟨rfl,rfl,rfl,rfl⟩:=hs
   obtain⟨k1,k2,g1,g2,y1⟩:=hc
   obtain⟨A1,p1,d1,e1,t1⟩:=zh_ R a1 k1 (fun i hi=>hrd i (List.mem_append_left _ hi)) (by omega)
   obtain⟨A2,p2,d2,e2,t2⟩:=zh_ R a2 k2 (fun i hi=>hrd i (List.mem_append_right _ hi)) (by omega)
   refine yh_ (views:=[⟨1,(ls iOf n1 f1).length,zp_ (ls iOf n1 f1),A1,p1⟩,⟨1,(ls iOf n2 f2).length,zp_ (ls iOf n2 f2),A2,p2⟩]) (eqInt_lit (ls iOf n1 f1) (ls iOf n2 f2) p1 p2 y1) ?_ R hm hwr ?_ ?_ ?_
   ·exact d31_
   ·exact d25_
   ·exact k8_
   ·exact k8_
  ·cases hs
 ·cases hs
theorem eqIns_lit (xs ys:List Ins)(p1 p2:Nat)(hx:xs.length≤281474976710656):zs_ Tryz.prog 28 [.sl 1 2 [] 5 0 xs.length (some p1),.sl 3 4 [] 5 0 ys.length (some p2)] [.gone,.gone,.ro (.arr xs.length 5 (prS xs)),.gone,.ro (.arr ys.length 5 (prS ys))] (.bool (eqL xs ys)) [.gone]:=by
 refine zf_ (fn:=Tryz.f28) 5 26 0 rfl rfl rfl rfl rfl u2_ rfl fun w0 M E hro=>?_
 repeat' (first|refine Ctl.h ?_ |((with_reducible intro hif);first |(focus (cases hif;done)) |((try simp only[JH]at hif);try exact hy_)) |((with_reducible first|apply J22 zv_ za_|apply J23 fol zv_ za_|apply J24);(·rfl);(· exact k13_);(try kernel_rfl);try exact yr_)|fail)
 ·have hne:xs≠ys:=fun e=>hif (by rw[e])
  apply At.endsRet za_ (fn:=Tryz.f28) (rs:=[.tmp 4]) Anc.refl hro (lb_ rfl) rfl
  ·exact k5_
  ·exact k6_
  ·exact k7_
  ·rfl
  ·exact k8_
  ·exact k9_
  ·rw[eqL_false hne];exact fun β=>rfl
  ·exact k8_
 ·refine WF.loopAt (fun j=>j≤xs.length∧∀q,q < j→xs.getD q ⟨0,0,0,0,0⟩=ys.getD q ⟨0,0,0,0,0⟩) (fun j=>[(0,.sl 1 2 [] 5 0 xs.length (some p1)),(1,.sl 3 4 [] 5 0 ys.length (some p2)),(12,.nat .i64 xs.length),(13,.nat .i64 j)]) (fun j=>[.gone,.gone,.ro (.arr xs.length 5 (prS xs)),.gone,.ro (.arr ys.length 5 (prS ys))]) (fun j=>xs.length - j) 0 ⟨Nat.zero_le _,fun q hq=>absurd hq (Nat.not_lt_zero q)⟩ ?_ ?_ rfl ?_ ?_ rfl ?_
  ·exact we_
  ·exact k7_
  ·exact k8_
  ·exact k8_
  have hlen:=hif
  rintro j ⟨hj,heq⟩
  repeat' (first|refine Ctl.h ?_ |((with_reducible intro hif);first |(focus (cases hif;done)) |((try simp only[JH]at hif);try exact hy_)) |((with_reducible first|apply J22 zv_ za_|apply J23 fol zv_ za_|apply J24);(·rfl);(· (simp only[push_cast,↓JP,Nat.reduceAdd,Nat.reduceEqDiff,Nat.reduceLT,Nat.reduceMul,Nat.reduceLeDiff,reduceCtorEq,reduceIte,prS,yu_,inN];rfl));(try kernel_rfl);try exact k14_)|fail)
  ·have hne:xs≠ys:=by rintro rfl;simp at hif
   apply At.endsRet za_ (fn:=Tryz.f28) (rs:=[.tmp 4]) Anc.refl hro (lb_ rfl) rfl
   ·exact k5_
   ·exact k6_
   ·exact k7_
   ·rfl
   ·exact k8_
   ·exact k9_
   ·rw[eqL_false hne];exact fun β=>rfl
   ·exact k8_
  ·have hq:xs.getD j ⟨0,0,0,0,0⟩=ys.getD j ⟨0,0,0,0,0⟩:=ins_ext (of_decide_eq_true hif.1) (of_decide_eq_true hif.2.1) (of_decide_eq_true hif.2.2.1) (of_decide_eq_true hif.2.2.2.1) (of_decide_eq_true hif.2.2.2.2)
   refine At.next (j+1) ?_ ?_ ?_ rfl ?_ ?_ rfl
   ·exact k11_
   ·exact we_
   ·exact k7_
   ·exact k8_
   ·exact k8_
  ·have hjn:j=xs.length:=by omega
   subst hjn
   have he:xs=ys:=ext_getD ⟨0,0,0,0,0⟩ hlen heq
   apply At.endsRet za_ (fn:=Tryz.f28) (rs:=[.tmp 4]) Anc.refl hro (lb_ rfl) rfl
   ·exact k5_
   ·exact k6_
   ·exact k7_
   ·rfl
   ·exact k8_
   ·exact k9_
   ·rw[eqL_true he];exact fun β=>rfl
   ·exact k8_
def sEqIns:yn_:=fun args h m=>match args with
 | [v1,v2]=>match xm_ h 5 (.tup []) v1,xm_ h 5 (.tup []) v2 with
  | some (c1,n1,f1,r1),some (c2,n2,f2,r2)=>some (c1∧c2∧(∀q,q < n1→isIns (f1 q)=true)∧(∀q,q < n2→isIns (f2 q)=true)∧((ls zm_ n1 f1).length≤281474976710656),.bool (eqL (ls zm_ n1 f1) (ls zm_ n2 f2)),r1++r2,[])
  | _,_=>none
 | _=>none
theorem sEqIns_ok:zi_ Tryz.prog 28 sEqIns:=by
 refine⟨zg_ (by kernel_rfl),fun args h m c v rd wr hs hm hc w0 M β h' w R hrd hwr hst=>?_⟩
 unfold sEqIns at hs
 split at hs
 ·rename_i v1 v2
  split at hs
  ·rename_i c1 n1 f1 r1 c2 n2 f2 r2 a1 a2
   simp only[Option.some.injEq,Prod.mk.injEq]at hs
   obtain⟨rfl,rfl,rfl,rfl⟩:=hs
   obtain⟨k1,k2,g1,g2,y1⟩:=hc
   obtain⟨A1,p1,d1,e1,t1⟩:=zh_ R a1 k1 (fun i hi=>hrd i (List.mem_append_left _ hi)) (by omega)
   obtain⟨A2,p2,d2,e2,t2⟩:=zh_ R a2 k2 (fun i hi=>hrd i (List.mem_append_right _ hi)) (by omega)
   refine yh_ (views:=[⟨5,(ls zm_ n1 f1).length,prS (ls zm_ n1 f1),A1,p1⟩,⟨5,(ls zm_ n2 f2).length,prS (ls zm_ n2 f2),A2,p2⟩]) (eqIns_lit (ls zm_ n1 f1) (ls zm_ n2 f2) p1 p2 y1) ?_ R hm hwr ?_ ?_ ?_
   ·intro x hx
    simp only[List.mem_cons,List.not_mem_nil,or_false]at hx
    rcases hx with rfl|rfl
    ·exact x2_ t1 e1 g1
    ·exact x2_ t2 e2 g2
   ·exact d25_
   ·exact k8_
   ·exact k8_
  ·cases hs
 ·cases hs
end Go.Proofs.YtjliakjbdcplcaaGreat.Vm
end
section
namespace Go.Proofs.YtjliakjbdcplcaaGreat.Vm
open Go.RowKit
attribute [local push_cast] prS zo_ zp_ xt_ y8_ y7_ y6_ y5_ y4_ xs_ y3_ y2_ y1_ zn_ z2_ z4_ z1_ zu_ zt_ iOf
theorem bun_own1 {ρ : Nat→Nat}{h':HM}{z t n:Nat}{cf:Nat→SV}(e:h' z=.own t (.arr n 1 cf) false)(hcf:∀q,q < n→isI .i64 (cf q)=true):Bun1 ρ (h' z) (.own t (.arr (ls iOf n cf).length 1 (zp_ (ls iOf n cf))) false):=by
 rw[zb_]
 show Less (h' z) (.own t (.arr n 1 (zp_ (ls iOf n cf))) false)
 rw[e]
 refine .val (fun β=>arrCl fun q hq=>?_) (fun n k f e=>by injection e with e1 e2 e3;subst e1 e2;exact⟨_,rfl⟩) (fun n k f e=>by injection e with e1 e2 e3;subst e1 e2;exact⟨_,rfl⟩)
 rw[isI_cl (hcf q hq)]
 show _=[Value.int .i64 ((ls iOf n cf).getD q 0)]
 rw[ls_getD hq]
theorem bun_own3 {ρ : Nat→Nat}{h':HM}{z t n:Nat}{cf:Nat→SV}(e:h' z=.own t (.arr n 3 cf) false)(hcf:∀q,q < n→isSnd (cf q)=true):Bun1 ρ (h' z) (.own t (.arr (ls zw_ n cf).length 3 (zo_ (ls zw_ n cf))) false):=by
 rw[zb_]
 show Less (h' z) (.own t (.arr n 3 fun q=>(zo_ (ls zw_ n cf) q).ren ρ) false)
 rw[e,sndsS_ren]
 refine .val (fun β=>arrCl fun q hq=>?_) (fun n k f e=>by injection e with e1 e2 e3;subst e1 e2;exact⟨_,rfl⟩) (fun n k f e=>by injection e with e1 e2 e3;subst e1 e2;exact⟨_,rfl⟩)
 unfold zo_
 rw[ls_getD hq,isSnd_cl (hcf q hq),isSnd_cl (z4_ _),z1_]
def x6_:yn_:=fun args h m=>match args with
 | [.sl z i [] 1 0 n none,.sl z2 j [] 3 0 n2 none]=>match h i,h j with
  | .own t1 (.arr n1 1 cf) false,.own t2 (.arr m2 3 sf) false=>bif (Nat.beq t1 2 && Nat.beq t2 125) && (Nat.beq z i && Nat.beq z2 j && Nat.beq n1 n && Nat.beq m2 n2) && z3_ [0,i,j] then
    some (((∀q,q < n→isI .i64 (cf q)=true)∧(∀q,q < n2→isSnd (sf q)=true))∧n≤1000000∧n2≤1000000,.tup [],[i,j],[(i,.gone),(j,.gone)])else none
  | _,_=>none
 | [.sl 0 0 [] 0 0 0 (some 0),.sl 0 0 [] 0 0 0 (some 0)]=>some (True,.tup [],[],[])
 | _=>none
theorem sSpoil_ok:zi_ Tryz.prog 40 x6_:=by
 refine⟨zg_ (by kernel_rfl),fun args h m c v rd wr hs hm hc w0 M β h' w R hrd hwr hst=>?_⟩
 unfold x6_ at hs
 split at hs
 ·rename_i z i n z2 j n2
  split at hs
  ·rename_i t1 n1 cf t2 m2 sf hi hj
   obtain⟨hb,hs⟩:=zl_ hs
   simp only[Option.some.injEq,Prod.mk.injEq]at hs
   obtain⟨rfl,rfl,rfl,rfl⟩:=hs
   simp only[Bool.and_eq_true]at hb
   obtain⟨⟨⟨b1,b2⟩,⟨⟨⟨b3,b4⟩,b5⟩,b6⟩⟩,hnd⟩:=hb
   have b1:=Nat.eq_of_beq_eq_true b1
   have b2:=Nat.eq_of_beq_eq_true b2
   have b3:=Nat.eq_of_beq_eq_true b3
   have b4:=Nat.eq_of_beq_eq_true b4
   have b5:=Nat.eq_of_beq_eq_true b5
   have b6:=Nat.eq_of_beq_eq_true b6
   subst b1 b2 b3 b4 b5 b6
   obtain⟨⟨hcf,hsf⟩,hn1,hn2⟩:=hc
   have ei:=hrd z (by simp)
   have ej:=hrd z2 (by simp)
   have H:=spoil_lit (ls iOf n1 cf) (ls zw_ m2 sf) (by rw[zb_];exact hn1) (by rw[zb_];exact hn2)
   exact bun_ok (h:=h) (m:=m) [0,z,z2] H R rfl (by simp) rfl rfl hnd
    ⟨Fit.gone (by rw[R.nil0];rfl),bun_own1 (ei.trans hi) hcf,bun_own3 (ej.trans hj) hsf,trivial⟩ hm
    (fun p hp=>by cases hp) (by simp) rfl
    ⟨trivial,fun q=>yy_ q,fun q=>xe_ q,trivial⟩ (by simp[ze_,zc_,hp,HB.born])
    ⟨trivial,trivial,trivial,trivial⟩ trivial (by simp only[zb_];rfl) rfl rfl
  ·cases hs
 ·simp only[Option.some.injEq,Prod.mk.injEq]at hs
  obtain⟨rfl,rfl,rfl,rfl⟩:=hs
  exact bun_ok (h:=h) (m:=m) [0] spoil_nil R rfl (by simp) rfl rfl rfl
   ⟨Fit.gone (by rw[R.nil0];rfl),trivial⟩ hm (fun p hp=>by cases hp) (by simp) rfl
   ⟨trivial,trivial⟩ (by simp[ze_,zc_,hp,HB.born]) ⟨trivial,trivial⟩ trivial rfl rfl rfl
 ·cases hs
def sRunX (g:Bool):yn_:=bif g then sRunG else sRunB
def sTrX (e:Bool):yn_:=bif e then sTrN else sTrS
theorem sRunX_ok (g:Bool):zi_ Tryz.prog 13 (sRunX g):=by cases g;exact sRunB_ok;exact sRunG_ok
theorem sTrX_ok (e:Bool):zi_ Tryz.prog 14 (sTrX e):=by cases e;exact sTrS_ok;exact sTrN_ok
def cTl (g e:Bool):FuncId→Option yn_:=y9_ [(33,y0_),(34,sClI),(35,sCl64),(45,sCWhole),(46,sCFuel),(13,sRunX g),(14,sTrX e),(47,sRes),(29,sEqInt),(40,x6_),(28,sEqIns),(44,sEqI64)]
theorem cTl_ok (g e:Bool):∀f S,cTl g e f=some S→zi_ Tryz.prog f S:=zr_ ⟨sCSmall_ok,sClI_ok,sCl64_ok,sCWhole_ok,sCFuel_ok,sRunX_ok g,sTrX_ok e,sRes_ok,sEqInt_ok,sSpoil_ok,sEqIns_ok,sEqI64_ok,trivial⟩
theorem resB_bad {a:Int}{tr:List Int}{b:Int}{w:Sta}(hb:b≠0):resB tr.length a [] 0 [] tr a b w=true:=by
 unfold resB;rw[if_neg (by simp),if_pos hb];rfl
theorem resB_good {a:Int}{tr:List Int}{w:Sta}(he:w.ended=true):resB tr.length a w.cells w.draws w.sends tr a 0 w=true:=by
 unfold resB;rw[if_neg (by simp),if_neg (by simp)]
 simp[sameB,regsB,he]
theorem runO_rej {P:List Ins}{v:Evi}{s:Sta}{f e:Int}(h:ropE P v s f=e)(he:e≠0):xp_ P v s f=⟨[],0,e,zeroSt,Ins0⟩:=by
 unfold xp_;rw[h,if_neg he]
theorem run_facts {P:List Ins}{v:Evi}{s0:Sta}{F:Int}{R:RR}(hx:∀x∈P,x.ok)(hn:s0.sends.length≤1000000)(he:s0.ended=false)(hR:xp_ P v s0 F=R):R.tr.length≤1000000∧R.s.cells.length≤1000000∧R.s.sends.length≤1000000∧(R.bad=0→R.s.ended=true∧0≤R.s.draws∧R.s.draws≤1099511627776):=by
 subst hR
 by_cases h:ropE P v s0 F=0
 ·obtain⟨⟨h0,h1⟩,hO⟩:=ropE_zero h
  have hg:=runO_good' hx hO hn h0 h1
  have hl:=runO_le hO h0 h1
  have ha:=(runA_at (P:=P) (v:=v) F.toNat s0 Ins0 [] 0 (fun h=>by rw[he]at h;cases h)).2
  rw[←runO_of hO h0 h1]at ha
  exact⟨by omega,by have:=hg.c1;omega,hg.n1,fun hb=>⟨by rw[ha,hb];rfl,hg.d0,hg.d1⟩⟩
 ·rw[runO_rej rfl h]
  exact⟨Nat.zero_le _,Nat.zero_le _,Nat.zero_le _,fun hb=>absurd hb h⟩
theorem eqL_refl {α : Type}[DecidableEq α](a:List α):eqL a a=true:=by simp[eqL]
theorem tells_lit (P:List Ins)(v:Evi)(t s q o y d f:Int)(cs:List Int)(p1 p2:Nat)(hok:∀x∈P,x.ok)(hw:∀k,R64 (cs.getD k 0))(hy:R64 y)(ht:R64 t)(hs:R64 s):zs_ Tryz.prog 12 [.agg [.sl 1 2 [] 5 0 P.length (some p1),.agg [.int .u64 v.seed,.int .i64 v.process,.int .i64 v.ports,.int .i64 v.look,.int .i64 v.now],.agg [.agg [.int .i64 t,.int .i64 s,.int .i64 q],.int .i64 o,.int .i64 y],.sl 3 4 [] 1 0 cs.length (some p2),.int .i64 d,.int .i64 f]] [.gone,.gone,.ro (.arr P.length 5 (prS P)),.gone,.ro (.arr cs.length 1 (zp_ cs))] (.bool true) [.gone]:=by
 by_cases h1:P.length≤60
 case neg=>
  refine zf_ (fn:=Tryz.f12) 5 87 0 rfl rfl rfl rfl rfl u24_ rfl fun w0 M E hro=>?_
  repeat' (first|refine Ctl.h ?_ |((with_reducible intro hif);first |(focus (cases hif;done)) |((try simp only[JH]at hif);try exact hy_)) |((with_reducible first|apply J22 (cTl_ok true true) za_|apply J23 fol (cTl_ok true true) za_|apply J24);(·rfl);(· (simp only[push_cast,↓JP,Nat.reduceAdd,Nat.reduceEqDiff,Nat.reduceLT,Nat.reduceMul,Nat.reduceLeDiff,reduceCtorEq,reduceIte,↓JK,cTl,JE,JB,y0_,sClI,sCl64,sCWhole,sCFuel,sRunX,sTrX,sRunG,sRunB,sTrN,sTrS,sRes,sEqInt,x6_,sEqIns,sEqI64,cond_true,cond_false,sr,cRf,sRf,trO,cB,sB,z3_,memN,zu_,zt_,zn_,iOf,zb_,xw_,z0_,eqL_refl,inR,inN,h1];rfl));(try kernel_rfl);try exact k173_)|fail)
  apply At.endsRet za_ (fn:=Tryz.f12) (rs:=[.tmp 2]) Anc.refl hro (lb_ rfl) rfl
  ·exact yl_
  ·exact k6_
  ·exact k7_
  ·rfl
  ·exact k172_
  ·exact k9_
  ·exact fun β=>rfl
  ·exact k172_
 by_cases h2:cs.length≤1100
 case neg=>
  refine zf_ (fn:=Tryz.f12) 5 87 0 rfl rfl rfl rfl rfl u24_ rfl fun w0 M E hro=>?_
  repeat' (first|refine Ctl.h ?_ |((with_reducible intro hif);first |(focus (cases hif;done)) |((try simp only[JH]at hif);try exact hy_)) |((with_reducible first|apply J22 (cTl_ok true true) za_|apply J23 fol (cTl_ok true true) za_|apply J24);(·rfl);(· (simp only[push_cast,↓JP,Nat.reduceAdd,Nat.reduceEqDiff,Nat.reduceLT,Nat.reduceMul,Nat.reduceLeDiff,reduceCtorEq,reduceIte,↓JK,cTl,JE,JB,y0_,sClI,sCl64,sCWhole,sCFuel,sRunX,sTrX,sRunG,sRunB,sTrN,sTrS,sRes,sEqInt,x6_,sEqIns,sEqI64,cond_true,cond_false,sr,cRf,sRf,trO,cB,sB,z3_,memN,zu_,zt_,zn_,iOf,zb_,xw_,z0_,eqL_refl,inR,inN,h1,h2];rfl));(try kernel_rfl);try exact k173_)|fail)
  apply At.endsRet za_ (fn:=Tryz.f12) (rs:=[.tmp 2]) Anc.refl hro (lb_ rfl) rfl
  ·exact yl_
  ·exact k6_
  ·exact k7_
  ·rfl
  ·exact k172_
  ·exact k9_
  ·exact fun β=>rfl
  ·exact k172_
 obtain⟨R,hR⟩:∃R,xp_ P v (yo_ y t s cs d) (fuelF f)=R:=⟨_,rfl⟩
 obtain⟨l1,l2,l3,hen⟩:=run_facts hok (by simp[yo_]) rfl hR
 have hP6:P.length≤1000000:=by omega
 have hC6:cs.length≤1000000:=by omega
 cases he:R.tr.isEmpty
 ·by_cases hb:R.bad=0
  ·obtain⟨he2,d0,d1⟩:=hen hb
   have hres:resB R.tr.length R.at_ R.s.cells R.s.draws R.s.sends R.tr R.at_ R.bad R.s=true:=by rw[hb];exact resB_good he2
   refine zf_ (fn:=Tryz.f12) 5 87 0 rfl rfl rfl rfl rfl u24_ rfl fun w0 M E hro=>?_
   repeat' (first|refine Ctl.h ?_ |((with_reducible intro hif);first |(focus (cases hif;done)) |((try simp only[JH]at hif);try exact hy_)) |((with_reducible first|apply J22 (cTl_ok true false) za_|apply J23 fol (cTl_ok true false) za_|apply J24);(·rfl);(· (simp only[push_cast,↓JP,Nat.reduceAdd,Nat.reduceEqDiff,Nat.reduceLT,Nat.reduceMul,Nat.reduceLeDiff,reduceCtorEq,reduceIte,↓JK,cTl,JE,JB,y0_,sClI,sCl64,sCWhole,sCFuel,sRunX,sTrX,sRunG,sRunB,sTrN,sTrS,sRes,sEqInt,x6_,sEqIns,sEqI64,cond_true,cond_false,sr,cRf,sRf,trO,cB,sB,z3_,memN,zu_,zt_,zn_,iOf,zb_,xw_,z0_,eqL_refl,inR,inN,h1,h2,hR,(eq_true hb),(eq_true hb.symm),he,hres];rfl));(try kernel_rfl);try exact k173_)|fail)
   apply At.endsRet za_ (fn:=Tryz.f12) (rs:=[.tmp 2]) Anc.refl hro (lb_ rfl) rfl
   ·exact yl_
   ·exact k6_
   ·exact k7_
   ·rfl
   ·exact k172_
   ·exact k9_
   ·exact fun β=>rfl
   ·exact k172_
  ·have hres:resB R.tr.length R.at_ [] 0 [] R.tr R.at_ R.bad R.s=true:=resB_bad hb
   refine zf_ (fn:=Tryz.f12) 5 87 0 rfl rfl rfl rfl rfl u24_ rfl fun w0 M E hro=>?_
   repeat' (first|refine Ctl.h ?_ |((with_reducible intro hif);first |(focus (cases hif;done)) |((try simp only[JH]at hif);try exact hy_)) |((with_reducible first|apply J22 (cTl_ok false false) za_|apply J23 fol (cTl_ok false false) za_|apply J24);(·rfl);(· (simp only[push_cast,↓JP,Nat.reduceAdd,Nat.reduceEqDiff,Nat.reduceLT,Nat.reduceMul,Nat.reduceLeDiff,reduceCtorEq,reduceIte,↓JK,cTl,JE,JB,y0_,sClI,sCl64,sCWhole,sCFuel,sRunX,sTrX,sRunG,sRunB,sTrN,sTrS,sRes,sEqInt,x6_,sEqIns,sEqI64,cond_true,cond_false,sr,cRf,sRf,trO,cB,sB,z3_,memN,zu_,zt_,zn_,iOf,zb_,xw_,z0_,eqL_refl,inR,inN,h1,h2,hR,hb,he,hres];rfl));(try kernel_rfl);try exact k173_)|fail)
   apply At.endsRet za_ (fn:=Tryz.f12) (rs:=[.tmp 2]) Anc.refl hro (lb_ rfl) rfl
   ·exact yl_
   ·exact k6_
   ·exact k7_
   ·rfl
   ·exact k172_
   ·exact k9_
   ·exact fun β=>rfl
   ·exact k172_
 ·have htr:eqL [] R.tr=true:=by rw[List.isEmpty_iff.1 he];rfl
  by_cases hb:R.bad=0
  ·obtain⟨he2,d0,d1⟩:=hen hb
   have hres:resB R.tr.length R.at_ R.s.cells R.s.draws R.s.sends R.tr R.at_ R.bad R.s=true:=by rw[hb];exact resB_good he2
   refine zf_ (fn:=Tryz.f12) 5 87 0 rfl rfl rfl rfl rfl u24_ rfl fun w0 M E hro=>?_
   repeat' (first|refine Ctl.h ?_ |((with_reducible intro hif);first |(focus (cases hif;done)) |((try simp only[JH]at hif);try exact hy_)) |((with_reducible first|apply J22 (cTl_ok true true) za_|apply J23 fol (cTl_ok true true) za_|apply J24);(·rfl);(· (simp only[push_cast,↓JP,Nat.reduceAdd,Nat.reduceEqDiff,Nat.reduceLT,Nat.reduceMul,Nat.reduceLeDiff,reduceCtorEq,reduceIte,↓JK,cTl,JE,JB,y0_,sClI,sCl64,sCWhole,sCFuel,sRunX,sTrX,sRunG,sRunB,sTrN,sTrS,sRes,sEqInt,x6_,sEqIns,sEqI64,cond_true,cond_false,sr,cRf,sRf,trO,cB,sB,z3_,memN,zu_,zt_,zn_,iOf,zb_,xw_,z0_,eqL_refl,inR,inN,h1,h2,hR,(eq_true hb),(eq_true hb.symm),he,hres,htr];rfl));(try kernel_rfl);try exact k173_)|fail)
   apply At.endsRet za_ (fn:=Tryz.f12) (rs:=[.tmp 2]) Anc.refl hro (lb_ rfl) rfl
   ·exact yl_
   ·exact k6_
   ·exact k7_
   ·rfl
   ·exact k172_
   ·exact k9_
   ·exact fun β=>rfl
   ·exact k172_
  ·have hres:resB R.tr.length R.at_ [] 0 [] R.tr R.at_ R.bad R.s=true:=resB_bad hb
   refine zf_ (fn:=Tryz.f12) 5 87 0 rfl rfl rfl rfl rfl u24_ rfl fun w0 M E hro=>?_
   repeat' (first|refine Ctl.h ?_ |((with_reducible intro hif);first |(focus (cases hif;done)) |((try simp only[JH]at hif);try exact hy_)) |((with_reducible first|apply J22 (cTl_ok false true) za_|apply J23 fol (cTl_ok false true) za_|apply J24);(·rfl);(· (simp only[push_cast,↓JP,Nat.reduceAdd,Nat.reduceEqDiff,Nat.reduceLT,Nat.reduceMul,Nat.reduceLeDiff,reduceCtorEq,reduceIte,↓JK,cTl,JE,JB,y0_,sClI,sCl64,sCWhole,sCFuel,sRunX,sTrX,sRunG,sRunB,sTrN,sTrS,sRes,sEqInt,x6_,sEqIns,sEqI64,cond_true,cond_false,sr,cRf,sRf,trO,cB,sB,z3_,memN,zu_,zt_,zn_,iOf,zb_,xw_,z0_,eqL_refl,inR,inN,h1,h2,hR,hb,he,hres,htr];rfl));(try kernel_rfl);try exact k173_)|fail)
   apply At.endsRet za_ (fn:=Tryz.f12) (rs:=[.tmp 2]) Anc.refl hro (lb_ rfl) rfl
   ·exact yl_
   ·exact k6_
   ·exact k7_
   ·rfl
   ·exact k172_
   ·exact k9_
   ·exact fun β=>rfl
   ·exact k172_
def sTells19:yn_:=fun args h m=>match args with
 | [.agg [v1,.agg [v2,v3,v4,v5,v6],.agg [.agg [v7,v8,v9],v10,v11],v12,v13,v14]]=>match xm_ h 5 (.tup []) v1,xm_ h 1 (.tup []) v12 with
  | some (c1,n1,f1,r1),some (c12,n12,f12,r12)=>bif isI .u64 v2 && isI .i64 v3 && isI .i64 v4 && isI .i64 v5 && isI .i64 v6 && isI .i64 v7 && isI .i64 v8 && isI .i64 v9 && isI .i64 v10 && isI .i64 v11 && isI .i64 v13 && isI .i64 v14 then some (c1∧c12∧(∀q,q < n1→isIns (f1 q)=true)∧(∀q,q < n12→isI .i64 (f12 q)=true)∧((∀x∈(ls zm_ n1 f1),x.ok))∧((∀k,R64 ((ls iOf n12 f12).getD k 0)))∧(R64 (iOf v11))∧(R64 (iOf v7))∧(R64 (iOf v8)),.bool true,r1++r12,[])else none
  | _,_=>none
 | _=>none
theorem sTells19_ok:zi_ Tryz.prog 12 sTells19:=by
 refine⟨zg_ (by kernel_rfl),fun args h m c v rd wr hs hm hc w0 M β h' w R hrd hwr hst=>?_⟩
 unfold sTells19 at hs
 split at hs
 ·rename_i v1 v2 v3 v4 v5 v6 v7 v8 v9 v10 v11 v12 v13 v14
  split at hs
  ·rename_i c1 n1 f1 r1 c12 n12 f12 r12 a1 a12
   obtain⟨hb,hs⟩:=zl_ hs
   simp only[Option.some.injEq,Prod.mk.injEq]at hs
   obtain⟨rfl,rfl,rfl,rfl⟩:=hs
   simp only[Bool.and_eq_true]at hb
   obtain⟨⟨⟨⟨⟨⟨⟨⟨⟨⟨⟨b2,b3⟩,b4⟩,b5⟩,b6⟩,b7⟩,b8⟩,b9⟩,b10⟩,b11⟩,b13⟩,b14⟩:=hb
   obtain⟨k1,k12,g1,g12,y1,y2,y3,y4,y5⟩:=hc
   obtain⟨A1,p1,d1,e1,t1⟩:=zh_ R a1 k1 (fun i hi=>hrd i (List.mem_append_left _ hi)) (by omega)
   obtain⟨A12,p12,d12,e12,t12⟩:=zh_ R a12 k12 (fun i hi=>hrd i (List.mem_append_right _ hi)) (by omega)
   refine yh_ (views:=[⟨5,(ls zm_ n1 f1).length,prS (ls zm_ n1 f1),A1,p1⟩,⟨1,(ls iOf n12 f12).length,zp_ (ls iOf n12 f12),A12,p12⟩]) (tells_lit (ls zm_ n1 f1) ⟨(iOf v2),(iOf v3),(iOf v4),(iOf v5),(iOf v6)⟩ (iOf v7) (iOf v8) (iOf v9) (iOf v10) (iOf v11) (iOf v13) (iOf v14) (ls iOf n12 f12) p1 p12 y1 y2 y3 y4 y5) ?_ R hm hwr ?_ ?_ ?_
   ·exact d43_
   ·exact d46_
   ·exact k172_
   ·exact k172_
  ·cases hs
 ·cases hs
end Go.Proofs.YtjliakjbdcplcaaGreat.Vm
end

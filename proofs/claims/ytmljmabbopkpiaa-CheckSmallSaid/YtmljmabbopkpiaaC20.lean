import Derived.Test.YtmljmabbopkpiaaC1
import Derived.Test.YtmljmabbopkpiaaC9
import Derived.Test.YtmljmabbopkpiaaC19
set_option linter.unusedSimpArgs false
set_option linter.unusedVariables false
set_option maxRecDepth 100000
set_option maxHeartbeats 4000000
section
namespace Go.Proofs.Ytmljmabbopkpiaa.Vm
open Go.RowKit
attribute [local push_cast] eqB eqBL allB
def dR (a b:BitVec 64)(k:Nat):BitVec 64:=BitVec.ofNat 64 ((a.toNat / 2 ^ (64 - k)) % b.toNat)
def qS (z:BitVec 64)(k:Nat):Nat→SV:=fun q=>.int .i64 (if 64 - k≤q then bI (z.getLsbD q)else 0)
theorem qS_size (z:BitVec 64)(k q:Nat):(qS z k q).size=1:=rfl
theorem less_q0 {t:Nat}{b:Bool}(z:BitVec 64):Less (.own t (.arr 64 1 fun _=>.nat .i64 0) b) (.own t (.arr 64 1 (qS z 0)) b):=
 .val (fun β=>arrCl fun q hq=>by unfold qS;rw[if_neg (by omega)];rfl) (fun n1 k1 f1 e=>by injection e with e1 e2 e3;subst e1 e2;exact⟨_,rfl⟩) (fun n1 k1 f1 e=>by injection e with e1 e2 e3;subst e1 e2;exact⟨_,rfl⟩)
theorem less_q1 {t:Nat}{σ : Nat→Nat}{b:Bool}(z:BitVec 64)(k:Nat)(hk:k < 64)(h1:z.getLsbD (63 - k)=true){g:Nat→SV}{xv:SV}(hg:g=fun q=>SV.ite (decide (q=63 - k)) xv (qS z k q))(hx:∀β,xv.cl β = [.int .i64 1]):Less (.own t (.arr 64 1 g) b) ((HB.own t (.arr 64 1 (qS z (k+1))) b).ren σ):=by
 have e:(HB.own t (.arr 64 1 (qS z (k+1))) b).ren σ = .own t (.arr 64 1 (qS z (k+1))) b:=rfl
 rw[e]
 subst hg
 refine .val (fun β=>arrCl fun q hq=>?_) (fun n1 k1 f1 e=>by injection e with e1 e2 e3;subst e1 e2;exact⟨_,rfl⟩) (fun n1 k1 f1 e=>by injection e with e1 e2 e3;subst e1 e2;exact⟨_,rfl⟩)
 rw[x1_]
 by_cases h:q=63 - k
 ·simp only[h,decide_true,cond_true,hx,qS]
  rw[if_pos (by omega),h1];rfl
 ·have h2:(64 - (k+1)≤q)↔(64 - k≤q):=by omega
  simp only[h,decide_false,cond_false,qS,h2]
theorem less_q2 {t:Nat}{σ : Nat→Nat}{b:Bool}(z:BitVec 64)(k:Nat)(hk:k < 64)(h1:z.getLsbD (63 - k)=false):Less (.own t (.arr 64 1 (qS z k)) b) ((HB.own t (.arr 64 1 (qS z (k+1))) b).ren σ):=by
 have e:(HB.own t (.arr 64 1 (qS z (k+1))) b).ren σ = .own t (.arr 64 1 (qS z (k+1))) b:=rfl
 rw[e]
 refine .val (fun β=>arrCl fun q hq=>?_) (fun n1 k1 f1 e=>by injection e with e1 e2 e3;subst e1 e2;exact⟨_,rfl⟩) (fun n1 k1 f1 e=>by injection e with e1 e2 e3;subst e1 e2;exact⟨_,rfl⟩)
 unfold qS
 by_cases h:q=63 - k
 ·rw[if_neg (by omega),if_pos (by omega),h,h1];rfl
 ·have h2:(64 - (k+1)≤q)↔(64 - k≤q):=by omega
  simp only[h2]
theorem it_one:Int.toNat 1=1:=rfl
theorem ls_i64U (l:List Int):ls iOf l.length (fun q=>SV.int .i64 (l.getD q 0))=l:=yu_ l
theorem ls_gB {n q:Nat}{f:Nat→SV}(h:q < n):(ls iOf n f).getD q 0=iOf (f q):=by
 unfold ls;simp[h]
theorem ls_eqB {n:Nat}{f:Nat→SV}{z:BitVec 64}(hn:n=64)(h:∀q,q < 64→iOf (f q)=bI (z.getLsbD q)):ls iOf n f=bl z:=by
 subst hn
 exact bl_ext (zc_ ..) fun i hi=>by rw[ls_gB hi];exact h i hi
theorem less_arB2 {t n:Nat}{σ : Nat→Nat}{b:Bool}{f:Nat→SV}(z:BitVec 64)(hn:n=64)(h:∀β q,q < 64→(f q).cl β = [.int .i64 (bI (z.getLsbD q))]):Less (.own t (.arr n 1 f) b) ((HB.own t (.arr (bl z).length 1 (zw_ (bl z))) b).ren σ):=by
 subst hn
 exact less_arB z h
def cDiv:FuncId→Option y4_:=xz_ [(162,sRUp),(155,sRSum),(156,sRNot),(165,sRLess)]
theorem cDiv_ok:∀f S,cDiv f=some S→zm_ Try.prog f S:=z0_ ⟨sRUp_ok,sRSum_ok,sRNot_ok,sRLess_ok,trivial⟩
theorem div_lit (a b:BitVec 64)(p1 p2:Nat)(hb:0 < b.toNat):zz_ Try.prog 158 [.sl 1 2 [] 1 0 (bl a).length (some p1),.sl 3 4 [] 1 0 (bl b).length (some p2)] [.gone,.gone,.ro (.arr (bl a).length 1 (zw_ (bl a))),.gone,.ro (.arr (bl b).length 1 (zw_ (bl b)))] (.tup [.sl 5 5 [] 1 0 (bl (a / b)).length none,.sl 6 6 [] 1 0 (bl (a % b)).length none]) [.gone,.gone,.gone,.gone,.gone,bO (bl (a / b)),bO (bl (a % b))]:=by
 have l1:=z8_ a
 have l2:=z8_ b
 have hal:=a.isLt
 refine zf_ (fn:=Try.f158) 5 44 0 rfl rfl rfl rfl rfl u5_ rfl fun w0 M E hro=>?_
 repeat' (first|refine Ctl.h ?_ |((with_reducible intro hif);first |(focus (cases hif;done)) |((try simp only[JH]at hif);try exact hy_)) |((with_reducible first|apply J22 cDiv_ok za_|apply J23 fol cDiv_ok za_|apply J24);(·rfl);(· exact k29_);(try kernel_rfl);try exact k9_)|fail)
 refine WF.put 5 (.own 3 (.arr 64 1 fun _=>.nat .i64 0) false) .loose (fun q=>trivial) rfl rfl ?_
 refine WF.put 6 (.own 3 (.arr 64 1 fun _=>.nat .i64 0) false) .loose (fun q=>trivial) rfl rfl ?_
 simp only[setH]
 have hR0:dR a b 0=0#64:=by
  unfold dR
  rw[Nat.div_eq_of_lt hal,Nat.zero_mod]
 refine At.pick (L2:=[.gone,.gone,.ro (.arr (bl a).length 1 (zw_ (bl a))),.gone,.ro (.arr (bl b).length 1 (zw_ (bl b))),.own 3 (.arr 64 1 (qS (a / b) 0)) false,bO (bl (dR a b 0))]) (φ2:=[(0,.sl 1 2 [] 1 0 (bl a).length (some p1)),(1,.sl 3 4 [] 1 0 (bl b).length (some p2)),(6,.sl 5 5 [] 1 0 64 none),(7,.sl 6 6 [] 1 0 (bl (dR a b 0)).length none),(8,.int .i64 (63 - ((0:Nat):Int)))]) [0,1,2,3,4,5,6] rfl rfl rfl ?_ rfl ?_ ?_ ?_ rfl ?_
 ·(repeat' (first|exact trivial|exact .inl rfl|exact .inr (.same _)|exact .inr .loose|exact .inr (.arr (by assumption))|apply And.intro |(exact .inr (less_q0 _)) |(rw[hR0];exact .inr (less_arB 0#64 fun β q hq=>by simp[bI];rfl))))
 ·exact k60_
 ·(repeat' (first|exact trivial|exact⟨_,rfl,fun β=>rfl⟩|apply And.intro |(rw[hR0,z8_];exact⟨_,rfl,fun β=>rfl⟩)))
 ·exact k60_
 refine WF.loopAt (fun (k:Nat)=>k≤64) (fun (k:Nat)=>[(0,.sl 1 2 [] 1 0 (bl a).length (some p1)),(1,.sl 3 4 [] 1 0 (bl b).length (some p2)),(6,.sl 5 5 [] 1 0 64 none),(7,.sl 6 6 [] 1 0 (bl (dR a b k)).length none),(8,.int .i64 (63 - (k:Int)))]) (fun (k:Nat)=>[.gone,.gone,.ro (.arr (bl a).length 1 (zw_ (bl a))),.gone,.ro (.arr (bl b).length 1 (zw_ (bl b))),.own 3 (.arr 64 1 (qS (a / b) k)) false,bO (bl (dR a b k))]) (fun (k:Nat)=>64 - k) 0 (Nat.zero_le _) ?_ ?_ rfl ?_ ?_ rfl ?_
 ·exact k8_
 ·exact k5_
 ·exact k60_
 ·exact k60_
 intro k hk
 have l3:=z8_ (dR a b k)
 by_cases hkl:k < 64
 ·have hk0:(0:Int)≤63 - (k:Int):=by omega
  have hkt:(63 - (k:Int)).toNat=63 - k:=by omega
  have hden:∀β,(SV.int .i64 (63 - (k:Int) - 1)).den β =(SV.int .i64 (63 - ((k+1:Nat):Int))).den β:=fun β=>by rw[show 63 - (k:Int) - 1=63 - ((k+1:Nat):Int) by omega]
  have hst:=div_step a.toNat b.toNat (63 - k) hb
  rw[show 63 - k+1=64 - k by omega]at hst
  obtain⟨r,hr⟩:∃r,a.toNat / 2 ^ (64 - k) % b.toNat=r:=⟨_,rfl⟩
  obtain⟨c,hc⟩:∃c,a.toNat / 2 ^ (63 - k) % 2=c:=⟨_,rfl⟩
  have hc2:c < 2:=by rw[←hc];exact Nat.mod_lt _ (by decide)
  have hrb:r < b.toNat:=by rw[←hr];exact Nat.mod_lt _ hb
  have hr64:r < 2 ^ 64:=Nat.lt_trans hrb b.isLt
  rw[hr,hc]at hst
  obtain⟨s1,s2⟩:=hst
  have eR:dR a b k=BitVec.ofNat 64 r:=by rw[←hr];rfl
  have eR2:dR a b (k+1)=BitVec.ofNat 64 (if b.toNat≤2*r+c then 2*r+c - b.toNat else 2*r+c):=by rw[←s1];unfold dR;rw[show 64 - (k+1)=63 - k by omega]
  have eq:(a / b).getLsbD (63 - k)=decide (b.toNat≤2*r+c):=by rw[←s2,←BitVec.testBit_toNat,BitVec.toNat_udiv]
  have ea:a.getLsbD (63 - k)=decide (c=1):=by rw[←BitVec.testBit_toNat,Nat.testBit_eq_decide_div_mod_eq,hc]
  have hx:(bl a).getD (63 - k) 0=bI (decide (c=1)):=by rw[ze_ (by omega),ea]
  have ht:(bl (dR a b k)).getD 63 0=bI (decide (2 ^ 63≤r)):=by rw[ze_ (by decide),eR,top_bit hr64]
  have l4:=z8_ (BitVec.ofNat 64 r <<< 1)
  have htst:=div_test (c:=c) hrb hc2
  obtain⟨R1,hR1e⟩:∃x,BitVec.ofNat 64 (2*r+c)=x:=⟨_,rfl⟩
  have hR1b:∀q,q < 64→R1.getLsbD q=if q=0 then decide (c=1)else(BitVec.ofNat 64 r <<< 1).getLsbD q:=fun q hq=>by rw[←hR1e];exact dbl_bit r c q hc2 hq
  have hR1:ls iOf (bl (BitVec.ofNat 64 r <<< 1)).length (fun q=>SV.ite (decide (q=0)) (.int .i64 (bI (decide (c=1)))) (zw_ (bl (BitVec.ofNat 64 r <<< 1)) q))=bl R1:=ls_eqB l4 fun q hq=>by
   rw[x1_,hR1b q hq]
   by_cases h:q=0
   ·simp[h,iOf]
   ·simp only[h,decide_false,cond_false,if_false]
    show (bl (BitVec.ofNat 64 r <<< 1)).getD q 0=_
    rw[ze_ hq]
  have hR1u:ls iOf (bl (BitVec.ofNat 64 r <<< 1)).length (fun j=>SV.int .i64 (bif decide (j=0)then bI (decide (c=1))else(bl (BitVec.ofNat 64 r <<< 1)).getD j 0))=bl R1:=ls_eqB l4 fun q hq=>by
   rw[hR1b q hq]
   show (bif decide (q=0)then bI (decide (c=1))else(bl (BitVec.ofNat 64 r <<< 1)).getD q 0)=_
   by_cases h:q=0
   ·simp[h]
   ·simp only[h,decide_false,cond_false,if_false]
    rw[ze_ hq]
  rw[hR1e]at htst
  rw[eR]at l3 ht ⊢
  have ed:decide ((1:Int)=1)=true:=rfl
  by_cases hov:2 ^ 63≤r
  ·rw[decide_eq_true hov]at ht htst
   have hge:b.toNat≤2*r+c:=of_decide_eq_true htst.symm
   rw[decide_eq_true hge]at eq
   rw[if_pos hge,←div_sub hrb hc2 hge,hR1e]at eR2
   have ht1:(bl (BitVec.ofNat 64 r)).getD 63 0=1:=ht
   repeat' (first|refine Ctl.h ?_ |((with_reducible intro hif);first |(focus (cases hif;done)) |((try simp only[JH]at hif);try exact hy_)) |((with_reducible first|apply J22 cDiv_ok za_|apply J23 fol cDiv_ok za_|apply J24);(·rfl);(· (simp only[push_cast,↓JP,Nat.reduceAdd,Nat.reduceEqDiff,Nat.reduceLT,Nat.reduceMul,Nat.reduceLeDiff,reduceCtorEq,reduceIte,cDiv,sRUp,sRSum,sRNot,sRLess,bO,hk0,hkt,hx,ht1,hR1,hR1u,yz_,yy_,iOf,yu_,yl_,ls_i64B,ls_i64U,vb_bl,sumV_sub,ed,zw_,qS_size,it_one,Int.toNat_natCast,nat_one_i,inR,inN];rfl));(try kernel_rfl);try exact k63_)|fail)
   refine At.nextPick [0,1,2,3,4,5,9] (k+1) ?_ rfl rfl rfl ?_ rfl ?_ ?_ ?_ rfl
   ·omega
   ·exact k61_
   ·exact k60_
   ·exact k62_
   ·exact k60_
  ·rw[decide_eq_false hov]at ht htst
   have ht1:(bl (BitVec.ofNat 64 r)).getD 63 0=0:=ht
   by_cases hlt:R1.toNat < b.toNat
   ·rw[decide_eq_true hlt]at htst
    have hge:¬b.toNat≤2*r+c:=of_decide_eq_false htst.symm
    rw[decide_eq_false hge]at eq
    rw[if_neg hge,hR1e]at eR2
    repeat' (first|refine Ctl.h ?_ |((with_reducible intro hif);first |(focus (cases hif;done)) |((try simp only[JH]at hif);try exact hy_)) |((with_reducible first|apply J22 cDiv_ok za_|apply J23 fol cDiv_ok za_|apply J24);(·rfl);(· exact k64_);(try kernel_rfl);try exact k63_)|fail)
    refine At.nextPick [0,1,2,3,4,5,7] (k+1) ?_ rfl rfl rfl ?_ rfl ?_ ?_ ?_ rfl
    ·omega
    ·(repeat' (first|exact trivial|exact .inl rfl|exact .inr (.same _)|exact .inr .loose|exact .inr (.arr (by assumption))|apply And.intro |(exact .inr (less_q2 _ k hkl eq)) |(rw[eR2];exact .inr (less_arB2 R1 l4 fun β q hq=>by rw[hR1b q hq];by_cases h:q=0;(subst h;rfl);(simp only[h,decide_false,cond_false,if_false];rw[←ze_ hq];rfl)))))
    ·exact k60_
    ·(repeat' (first|exact trivial|exact⟨_,rfl,fun β=>rfl⟩|apply And.intro |(first|exact⟨_,rfl,hden⟩ |(rw[eR2,z8_,l4];exact⟨_,rfl,fun β=>rfl⟩))))
    ·exact k60_
   ·rw[decide_eq_false hlt]at htst
    have hge:b.toNat≤2*r+c:=of_decide_eq_true htst.symm
    rw[decide_eq_true hge]at eq
    rw[if_pos hge,←div_sub hrb hc2 hge,hR1e]at eR2
    repeat' (first|refine Ctl.h ?_ |((with_reducible intro hif);first |(focus (cases hif;done)) |((try simp only[JH]at hif);try exact hy_)) |((with_reducible first|apply J22 cDiv_ok za_|apply J23 fol cDiv_ok za_|apply J24);(·rfl);(· exact k64_);(try kernel_rfl);try exact k63_)|fail)
    refine At.nextPick [0,1,2,3,4,5,9] (k+1) ?_ rfl rfl rfl ?_ rfl ?_ ?_ ?_ rfl
    ·omega
    ·exact k61_
    ·exact k60_
    ·exact k62_
    ·exact k60_
 ·obtain rfl:k=64:=by omega
  have hk0:¬(0:Int)≤63 - ((64:Nat):Int):=by omega
  have hRm:dR a b 64=a % b:=by
   unfold dR
   apply BitVec.eq_of_toNat_eq
   rw[BitVec.toNat_ofNat,BitVec.toNat_umod,Nat.sub_self,Nat.pow_zero,Nat.div_one]
   exact Nat.mod_eq_of_lt (Nat.lt_trans (Nat.mod_lt _ hb) b.isLt)
  have hlQ:=z8_ (a / b)
  repeat' (first|refine Ctl.h ?_ |((with_reducible intro hif);first |(focus (cases hif;done)) |((try simp only[JH]at hif);try exact hy_)) |((with_reducible first|apply J22 cDiv_ok za_|apply J23 fol cDiv_ok za_|apply J24);(·rfl);(· exact k58_);(try kernel_rfl);try exact k9_)|fail)
  apply At.endsPick [0,1,2,3,4,5,6] za_ (fn:=Try.f158) (rs:=[.tmp 4,.tmp 5]) Anc.refl hro (lb_ rfl) rfl
  ·exact k28_
  ·exact k39_
  ·rfl
  ·rfl
  ·rfl
  ·(repeat' (first|exact trivial|exact .inl rfl|exact .inr (.same _)|exact .inr .loose|exact .inr (.arr (by assumption))|apply And.intro |(exact .inr (less_arB _ fun β q hq=>by unfold qS;rw[if_pos (by omega)];rfl)) |(rw[←hRm];exact .inr (.same _))))
  ·rfl
  ·exact k60_
  ·exact k7_
  ·(intro β;rw[hlQ,←hRm];rfl)
  ·exact k60_
theorem div_ok (k l:List Int)(p1 p2:Nat)(h1:k=bl (vb k))(h2:l=bl (vb l))(hb:0 < (vb l).toNat):zz_ Try.prog 158 [.sl 1 2 [] 1 0 k.length (some p1),.sl 3 4 [] 1 0 l.length (some p2)] [.gone,.gone,.ro (.arr k.length 1 (zw_ k)),.gone,.ro (.arr l.length 1 (zw_ l))] (.tup [.sl 5 5 [] 1 0 (bl (vb k / vb l)).length none,.sl 6 6 [] 1 0 (bl (vb k % vb l)).length none]) [.gone,.gone,.gone,.gone,.gone,bO (bl (vb k / vb l)),bO (bl (vb k % vb l))]:=by
 have h:=div_lit (vb k) (vb l) p1 p2 hb
 rw[←h1,←h2]at h
 exact h
def sRDiv:y4_:=fun args h m=>match args with
 | [v1,v2]=>match srcV h 1 (.tup []) v1,srcV h 1 (.tup []) v2 with
  | some (c1,n1,f1,r1),some (c2,n2,f2,r2)=>some (c1∧c2∧(∀q,q < n1→isI .i64 (f1 q)=true)∧(∀q,q < n2→isI .i64 (f2 q)=true)∧((ls iOf n1 f1)=bl (vb (ls iOf n1 f1)))∧((ls iOf n2 f2)=bl (vb (ls iOf n2 f2)))∧(0 < (vb (ls iOf n2 f2)).toNat),.tup [.sl m m [] 1 0 (bl (vb (ls iOf n1 f1) / vb (ls iOf n2 f2))).length none,.sl (m+1) (m+1) [] 1 0 (bl (vb (ls iOf n1 f1) % vb (ls iOf n2 f2))).length none],r1++r2,[(m,bO (bl (vb (ls iOf n1 f1) / vb (ls iOf n2 f2)))),(m+1,bO (bl (vb (ls iOf n1 f1) % vb (ls iOf n2 f2))))])
  | _,_=>none
 | _=>none
theorem sRDiv_ok:zm_ Try.prog 158 sRDiv:=by
 refine⟨zg_ (by kernel_rfl),fun args h m c v rd wr hs hm hc w0 M β h' w R hrd hwr hst=>?_⟩
 unfold sRDiv at hs
 split at hs
 ·rename_i v1 v2
  split at hs
  ·rename_i c1 n1 f1 r1 c2 n2 f2 r2 a1 a2
   simp only[Option.some.injEq,Prod.mk.injEq]at hs
   obtain⟨rfl,rfl,rfl,rfl⟩:=hs
   obtain⟨k1,k2,g1,g2,y1,y2,y3⟩:=hc
   obtain⟨A1,p1,d1,e1,t1⟩:=zp_ R a1 k1 (fun i hi=>hrd i (List.mem_append_left _ hi)) (by omega)
   obtain⟨A2,p2,d2,e2,t2⟩:=zp_ R a2 k2 (fun i hi=>hrd i (List.mem_append_right _ hi)) (by omega)
   refine yb_ (views:=[⟨1,(ls iOf n1 f1).length,zw_ (ls iOf n1 f1),A1,p1⟩,⟨1,(ls iOf n2 f2).length,zw_ (ls iOf n2 f2),A2,p2⟩]) (div_ok (ls iOf n1 f1) (ls iOf n2 f2) p1 p2 y1 y2 y3) ?_ R hm hwr ?_ ?_ ?_
   ·exact d22_
   ·exact d25_
   ·exact k60_
   ·exact k60_
  ·cases hs
 ·cases hs
end Go.Proofs.Ytmljmabbopkpiaa.Vm
end
section
namespace Go.Proofs.Ytmljmabbopkpiaa.Vm
def R64 (a:Int):Prop:=-9223372036854775808≤a∧a≤9223372036854775807
end Go.Proofs.Ytmljmabbopkpiaa.Vm
end
section
namespace Go.Proofs.Ytmljmabbopkpiaa.Vm
open Go.RowKit
abbrev oi (a:Int):BitVec 64:=BitVec.ofInt 64 a
theorem bmod64 {n:Int}(h:R64 n):n.bmod (2 ^ 64)=n:=by
 obtain⟨h1,h2⟩:=h
 have e:((2 ^ 64:Nat):Int)=18446744073709551616:=by decide
 rw[Int.bmod_def,e]
 split<;>omega
theorem wrap_oi (n:Int):wrap64 n=(oi n).toInt:=by
 have e:((2 ^ 64:Nat):Int)=18446744073709551616:=by decide
 rw[BitVec.toInt_ofInt,Int.bmod_def,e,wrap64]
 split<;>omega
theorem oi_toInt {n:Int}(h:R64 n):(oi n).toInt=n:=by rw[BitVec.toInt_ofInt,bmod64 h]
theorem oi_nat (n:Nat):oi (n:Int)=BitVec.ofNat 64 n:=BitVec.ofInt_natCast ..
theorem u64_toNat (a:Int):IntKind.u64.wrap a=((oi a).toNat:Int):=by
 have e:((2 ^ 64:Nat):Int)=18446744073709551616:=by decide
 rw[BitVec.toNat_ofInt,e]
 simp only[IntKind.wrap,IntKind.bits,IntKind.signed]
 simp
 omega
theorem amV_nat {a:Int}(h:R64 a):(amV a).toNat=a.natAbs:=by
 obtain⟨h1,h2⟩:=h
 have e:((2 ^ 64:Nat):Int)=18446744073709551616:=by decide
 unfold amV
 split
 ·rename_i h0
  rw[←BitVec.ofInt_neg,BitVec.toNat_ofInt,e]
  omega
 ·rename_i h0
  rw[BitVec.toNat_ofInt,e]
  omega
theorem wrap_i64k (n:Int):IntKind.i64.wrap n=wrap64 n:=by
 rw[IntKind.wrap_i64,wrap64]
theorem bits_oi (x:BitVec 64):IntKind.i64.wrap (x.toNat:Int)=x.toInt:=by
 rw[wrap_i64k,wrap_oi,oi_nat,BitVec.ofNat_toNat,BitVec.setWidth_eq]
theorem ap7 (a b:Int):bits .and .i64 a b=(oi a &&& oi b).toInt:=bits_oi _
theorem ap8 (a b:Int):bits .or .i64 a b=(oi a ||| oi b).toInt:=bits_oi _
theorem ap9 (a b:Int):bits .xor .i64 a b=(oi a ^^^ oi b).toInt:=bits_oi _
theorem ap1 (a b:Int):wrap64 (a+b)=(oi a+oi b).toInt:=by rw[wrap_oi,oi,BitVec.ofInt_add]
theorem ap2 (a b:Int):wrap64 (a - b)=(oi a - oi b).toInt:=by
 rw[wrap_oi,Int.sub_eq_add_neg,oi,BitVec.ofInt_add,BitVec.ofInt_neg,BitVec.sub_eq_add_neg]
theorem ap3 (a b:Int):wrap64 (a*b)=(oi a*oi b).toInt:=by rw[wrap_oi,oi,BitVec.ofInt_mul]
def nY (y:BitVec 64):Int:=bI (y.getLsbD 0)+2*bI (y.getLsbD 1)+4*bI (y.getLsbD 2)+8*bI (y.getLsbD 3)+16*bI (y.getLsbD 4)+32*bI (y.getLsbD 5)
theorem bI_dec (n:Nat):bI (decide (n % 2=1))=((n % 2:Nat):Int):=by
 by_cases h:n % 2=1
 ·rw[h];rfl
 ·have:n % 2=0:=by omega
  rw[this];rfl
theorem nY_eq (y:BitVec 64):nY y=((y.toNat % 64:Nat):Int):=by
 unfold nY
 simp only[←BitVec.testBit_toNat,Nat.testBit_eq_decide_div_mod_eq,bI_dec]
 simp only[Nat.reducePow,Nat.div_one]
 omega
theorem nY_sh (b:Int):(shB b).toNat=(nY (oi b)).toNat:=by
 rw[shB_eq,nY_eq,u64_toNat]
 omega
theorem nY_bd (y:BitVec 64):0≤nY y∧nY y≤63:=by rw[nY_eq];omega
theorem ap10 (a:Int){n:Nat}(hn:n≤63):wrap64 (a*2 ^ n)=(oi a <<< n).toInt:=by
 have e:oi ((2:Int) ^ n)=BitVec.twoPow 64 n:=by
  have:((2:Int) ^ n)=((2 ^ n:Nat):Int):=by simp
  rw[this,oi_nat,BitVec.twoPow_eq]
  apply BitVec.eq_of_toNat_eq
  simp[Nat.one_shiftLeft]
 rw[wrap_oi,oi,BitVec.ofInt_mul,←BitVec.mul_twoPow_eq_shiftLeft,←e]
theorem ap11 (a:Int)(n:Nat):wrap64 (IntKind.u64.wrap a / 2 ^ n)=(dnV (oi a) n false).toInt:=by
 have e:IntKind.u64.wrap a / 2 ^ n=(((oi a).toNat / 2 ^ n:Nat):Int):=by rw[u64_toNat];simp
 have e2:dnV (oi a) n false=oi a >>> n:=by simp[dnV]
 rw[e,wrap_oi,oi_nat,e2]
 congr 1
 apply BitVec.eq_of_toNat_eq
 have h1:=(oi a).isLt
 have h2:=Nat.div_le_self (oi a).toNat (2 ^ n)
 rw[BitVec.toNat_ofNat,BitVec.toNat_ushiftRight,Nat.shiftRight_eq_div_pow,Nat.mod_eq_of_lt (by omega)]
theorem ap12 {a:Int}(h:R64 a)(n:Nat):a / 2 ^ n=(dnV (oi a) n ((oi a).getLsbD 63)).toInt:=by
 have e:dnV (oi a) n ((oi a).getLsbD 63)=(oi a).sshiftRight n:=by
  apply BitVec.eq_of_getLsbD_eq
  intro i hi
  rw[dnV_bit hi,BitVec.getLsbD_sshiftRight]
  have h1:¬64≤i:=by omega
  have h2:(oi a).msb=(oi a).getLsbD 63:=by rw[BitVec.msb_eq_getLsbD_last]
  rw[h2,Nat.add_comm n i]
  simp[h1]
 rw[e,BitVec.toInt_sshiftRight,oi_toInt h,Int.shiftRight_eq_div_pow]
 simp
theorem ap14 (a b:Int):decide (IntKind.u64.wrap a < IntKind.u64.wrap b)=decide ((oi a).toNat < (oi b).toNat):=by
 rw[u64_toNat,u64_toNat]
 simp only[decide_eq_decide]
 omega
theorem quo_nat {a b:Int}(ha:R64 a)(hb:R64 b):amV a / amV b=BitVec.ofNat 64 (a.natAbs / b.natAbs):=by
 apply BitVec.eq_of_toNat_eq
 have h1:=(amV a / amV b).isLt
 rw[BitVec.toNat_udiv,amV_nat ha,amV_nat hb]at h1
 rw[BitVec.toNat_udiv,amV_nat ha,amV_nat hb,BitVec.toNat_ofNat,Nat.mod_eq_of_lt h1]
theorem rem_nat {a b:Int}(ha:R64 a)(hb:R64 b):amV a % amV b=BitVec.ofNat 64 (a.natAbs % b.natAbs):=by
 apply BitVec.eq_of_toNat_eq
 have h1:=(amV a % amV b).isLt
 rw[BitVec.toNat_umod,amV_nat ha,amV_nat hb]at h1
 rw[BitVec.toNat_umod,amV_nat ha,amV_nat hb,BitVec.toNat_ofNat,Nat.mod_eq_of_lt h1]
theorem oi_neg (n:Nat):oi (-(n:Int)) = -BitVec.ofNat 64 n:=by rw[oi,BitVec.ofInt_neg,←oi_nat]
theorem tdiv_sg (a b:Int):a.tdiv b=if ((decide (a < 0)) !=(decide (b < 0)))=true then -((a.natAbs / b.natAbs:Nat):Int)else((a.natAbs / b.natAbs:Nat):Int):=by
 by_cases h1:a < 0
 ·obtain⟨x,hx⟩:∃x:Nat,a = -(x:Int):=⟨a.natAbs,by omega⟩
  by_cases h2:b < 0
  ·obtain⟨y,hy⟩:∃y:Nat,b = -(y:Int):=⟨b.natAbs,by omega⟩
   rw[decide_eq_true h1,decide_eq_true h2,hx,hy,Int.neg_tdiv,Int.tdiv_neg,Int.neg_neg,←Int.ofNat_tdiv]
   simp
  ·obtain⟨y,hy⟩:∃y:Nat,b=(y:Int):=⟨b.natAbs,by omega⟩
   rw[decide_eq_true h1,decide_eq_false h2,hx,hy,Int.neg_tdiv,←Int.ofNat_tdiv]
   simp
 ·obtain⟨x,hx⟩:∃x:Nat,a=(x:Int):=⟨a.natAbs,by omega⟩
  by_cases h2:b < 0
  ·obtain⟨y,hy⟩:∃y:Nat,b = -(y:Int):=⟨b.natAbs,by omega⟩
   rw[decide_eq_false h1,decide_eq_true h2,hx,hy,Int.tdiv_neg,←Int.ofNat_tdiv]
   simp
  ·obtain⟨y,hy⟩:∃y:Nat,b=(y:Int):=⟨b.natAbs,by omega⟩
   rw[decide_eq_false h1,decide_eq_false h2,hx,hy,←Int.ofNat_tdiv]
   simp
theorem tmod_sg (a b:Int):a.tmod b=if a < 0 then -((a.natAbs % b.natAbs:Nat):Int)else((a.natAbs % b.natAbs:Nat):Int):=by
 have hb:a.tmod b=a.tmod (b.natAbs:Int):=by
  by_cases h2:b < 0
  ·obtain⟨y,hy⟩:∃y:Nat,b = -(y:Int):=⟨b.natAbs,by omega⟩
   rw[hy,Int.tmod_neg];simp
  ·rw[show ((b.natAbs:Nat):Int)=b by omega]
 rw[hb]
 by_cases h1:a < 0
 ·obtain⟨x,hx⟩:∃x:Nat,a = -(x:Int):=⟨a.natAbs,by omega⟩
  rw[if_pos h1,hx,Int.neg_tmod,←Int.ofNat_tmod]
  simp
 ·obtain⟨x,hx⟩:∃x:Nat,a=(x:Int):=⟨a.natAbs,by omega⟩
  rw[if_neg h1,hx,←Int.ofNat_tmod]
  simp
theorem ap4 {a b:Int}(ha:R64 a)(hb:R64 b):wrap64 (a.tdiv b)=(if ((decide (a < 0)) !=(decide (b < 0)))=true then -(amV a / amV b)else amV a / amV b).toInt:=by
 rw[wrap_oi,tdiv_sg,quo_nat ha hb]
 split
 ·rw[oi_neg]
 ·rw[oi_nat]
theorem tmod_R {a b:Int}(hb:R64 b)(h0:b≠0):R64 (a.tmod b)∧a.natAbs % b.natAbs < b.natAbs:=by
 obtain⟨h1,h2⟩:=hb
 have h3:a.natAbs % b.natAbs < b.natAbs:=Nat.mod_lt _ (by omega)
 refine⟨?_,h3⟩
 rw[tmod_sg]
 unfold R64
 split<;>omega
theorem ap5 {a b:Int}(ha:R64 a)(hb:R64 b)(h0:b≠0):a.tmod b=(if decide (a < 0)=true then -(amV a % amV b)else amV a % amV b).toInt:=by
 rw[←oi_toInt (tmod_R hb h0).1,tmod_sg,rem_nat ha hb]
 by_cases h:a < 0
 ·rw[if_pos h,oi_neg,if_pos (decide_eq_true h)]
 ·rw[if_neg h,oi_nat,if_neg (by simpa using h)]
theorem rem_val {a b:Int}(ha:R64 a)(hb:R64 b)(h0:b≠0):(amV a % amV b).toInt=((a.natAbs % b.natAbs:Nat):Int):=by
 have h3:=(tmod_R (a:=a) hb h0).2
 obtain⟨h1,h2⟩:=hb
 rw[rem_nat ha ⟨h1,h2⟩,←oi_nat,oi_toInt ⟨by omega,by omega⟩]
theorem ap6a {a b:Int}(ha:R64 a)(hb:R64 b)(h0:b≠0)(h:¬(a < 0∧(amV a % amV b).toInt≠0)):modI a b=(amV a % amV b).toInt:=by
 rw[rem_val ha hb h0]at h ⊢
 have e:a.tmod b=((a.natAbs % b.natAbs:Nat):Int):=by
  rw[tmod_sg]
  split<;>omega
 rw[modI,e,if_pos (by omega)]
theorem ap6b {a b:Int}(ha:R64 a)(hb:R64 b)(h0:b≠0)(h1:a < 0)(h2:(amV a % amV b).toInt≠0):modI a b=(amV b - amV a % amV b).toInt:=by
 have h3:=(tmod_R (a:=a) hb h0).2
 rw[rem_val ha hb h0]at h2
 have e:a.tmod b = -((a.natAbs % b.natAbs:Nat):Int):=by rw[tmod_sg,if_pos h1]
 have em:amV b=oi (b.natAbs:Int):=by
  apply BitVec.eq_of_toNat_eq
  rw[amV_nat hb,oi_nat,BitVec.toNat_ofNat,Nat.mod_eq_of_lt]
  obtain⟨h4,h5⟩:=hb
  omega
 have ev:amV b - amV a % amV b=oi ((b.natAbs:Int) - ((a.natAbs % b.natAbs:Nat):Int)):=by
  rw[rem_nat ha hb,em,←oi_nat,Int.sub_eq_add_neg]
  show oi _ - oi _=BitVec.ofInt 64 (_+_)
  rw[BitVec.ofInt_add,BitVec.ofInt_neg,BitVec.sub_eq_add_neg]
 rw[ev,←wrap_oi,modI,e,if_neg (by omega)]
 split<;>congr 1<;>omega
theorem truth_bI (b:Bool):truthI b=bI b:=by cases b<;>rfl
end Go.Proofs.Ytmljmabbopkpiaa.Vm
end

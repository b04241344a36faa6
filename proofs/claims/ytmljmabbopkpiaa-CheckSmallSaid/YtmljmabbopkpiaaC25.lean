import Derived.Test.YtmljmabbopkpiaaC9
import Derived.Test.YtmljmabbopkpiaaC20
import Derived.Test.YtmljmabbopkpiaaC24
set_option linter.unusedSimpArgs false
set_option linter.unusedVariables false
section
namespace Go.Proofs.Ytmljmabbopkpiaa.Vm
open Go.RowKit
theorem mem_emit {x:Ins}{k t:Int}{g s:Bool}{f h:Ft}(hm:(t,h)∈emitL x k g s f):h=f∧(g=true∧t=k+1∨s=true∧t=targV x):=by
 unfold emitL at hm
 rw[List.mem_append]at hm
 rcases hm with hm|hm
 ·cases g
  ·simp at hm
  ·simp at hm;exact⟨hm.2,.inl ⟨rfl,hm.1⟩⟩
 ·cases s
  ·simp at hm
  ·simp at hm;exact⟨hm.2,.inr ⟨rfl,hm.1⟩⟩
theorem emit_go {x:Ins}{k:Int}{g s:Bool}{f:Ft}(h:g=true):(k+1,f)∈emitL x k g s f:=by
 subst h;simp[emitL]
theorem emit_to {x:Ins}{k:Int}{g s:Bool}{f:Ft}(h:s=true):(targV x,f)∈emitL x k g s f:=by
 subst h;simp[emitL]
theorem hands_mem {n k:Nat}{x:Ins}(hR:RightI n k x){f h:Ft}{t:Int}(hm:(t,h)∈xf_ x k f) :
  h.reached=f.reached∧0≤t∧t < n∧(t=k+1∧goesB x=true∨t=targV x∧xj_ x=true)∧(h.regs=f.regs∨h.regs=setK f.regs x.a.toNat (resK x f.regs).1∧(32 < x.op→(resK x f.regs).2=true)):=by
 have hg:=goesB_of hR.one
 have ht:=targB_of hR.one
 have key:∀{g s:Bool} {f':Ft},(t,h)∈emitL x k g s f'→(g=true→goesB x=true)→(s=true→xj_ x=true)→f'.reached=f.reached→(f'.regs=f.regs∨f'.regs=setK f.regs x.a.toNat (resK x f.regs).1∧(32 < x.op→(resK x f.regs).2=true)) →
   h.reached=f.reached∧0≤t∧t < n∧(t=k+1∧goesB x=true∨t=targV x∧xj_ x=true)∧(h.regs=f.regs∨h.regs=setK f.regs x.a.toNat (resK x f.regs).1∧(32 < x.op→(resK x f.regs).2=true)):=by
  intro g s f' hm h1 h2 h3 h4
  obtain⟨rfl,h5⟩:=mem_emit hm
  rcases h5 with ⟨e,rfl⟩|⟨e,rfl⟩
  ·have:=hR.goes (h1 e)
   exact⟨h3,by omega,by omega,.inl ⟨rfl,h1 e⟩,h4⟩
  ·have:=hR.targ (h2 e)
   exact⟨h3,this.1,this.2,.inr ⟨rfl,h2 e⟩,h4⟩
 unfold xf_ at hm
 split at hm
 ·rename_i q
  exact key hm id id rfl (.inr ⟨rfl,fun h=>by omega⟩)
 split at hm
 ·exact key hm id id rfl (.inl rfl)
 split at hm
 ·rename_i q
  split at hm
  ·split at hm
   ·exact key hm (fun e=>by cases e) (fun _=>by rw[ht];rcases q with e|e<;>rw[e]<;>rfl) rfl (.inl rfl)
   ·exact key hm (fun _=>by rw[hg];rcases q with e|e<;>rw[e]<;>rfl) (fun e=>by cases e) rfl (.inl rfl)
  ·exact key hm id id rfl (.inl rfl)
 split at hm
 ·rename_i q
  split at hm
  ·rename_i q2
   exact key hm (fun _=>by rw[hg];simp;omega) id rfl (.inr ⟨rfl,fun _=>q2⟩)
  ·cases hm
 ·exact key hm id id rfl (.inl rfl)
theorem scanY_some {F G:List Ft}:∀{L:List (Int×Ft)},scanY F L=some G→∃t h,(t,h)∈L∧updF F t.toNat h=some G
 | [],e=>by cases e
 |(t,h)::L,e=>by
  unfold scanY at e
  cases hu:updF F t.toNat h with
  | some G'=>rw[hu]at e;exact⟨t,h,List.mem_cons_self ..,by rw[hu];exact e⟩
  | none=>
   rw[hu]at e
   obtain⟨t',h',hm,hh⟩:=scanY_some (L:=L) e
   exact⟨t',h',List.mem_cons_of_mem _ hm,hh⟩
theorem scanY_none {F:List Ft}:∀{L:List (Int×Ft)},scanY F L=none→∀t h,(t,h)∈L→updF F t.toNat h=none
 | [],_,t,h,hm=>by cases hm
 |(t0,h0)::L,e,t,h,hm=>by
  unfold scanY at e
  cases hu:updF F t0.toNat h0 with
  | some G'=>rw[hu]at e;cases e
  | none=>
   rw[hu]at e
   rcases List.mem_cons.1 hm with q|q
   ·injection q with q1 q2;subst q1 q2;exact hu
   ·exact scanY_none (L:=L) e t h q
theorem scanK_some {p:List Ins}{F G:List Ft}:∀{j:Nat},scanK p F j=some G→∃k t h,k < j∧(zs_ F k).reached=true∧(t,h)∈xf_ (p.getD k ⟨0,0,0,0,0⟩) k (zs_ F k)∧updF F t.toNat h=some G
 | 0,e=>by cases e
 | j+1,e=>by
  unfold scanK at e
  cases hj:scanK p F j with
  | some G'=>
   rw[hj]at e
   obtain⟨k,t,h,hk,hh⟩:=scanK_some (j:=j) (hj.trans e)
   exact⟨k,t,h,by omega,hh⟩
  | none=>
   rw[hj]at e
   cases hr:(zs_ F j).reached with
   | false=>rw[hr]at e;cases e
   | true=>
    rw[hr]at e
    obtain⟨t,h,hm,hu⟩:=scanY_some e
    exact⟨j,t,h,by omega,hr,hm,hu⟩
theorem scanK_none {p:List Ins}{F:List Ft}:∀{j:Nat},scanK p F j=none→∀k,k < j→(zs_ F k).reached=true→scanY F (xf_ (p.getD k ⟨0,0,0,0,0⟩) k (zs_ F k))=none
 | 0,_,k,hk,_=>by omega
 | j+1,e,k,hk,hr=>by
  unfold scanK at e
  cases hj:scanK p F j with
  | some G'=>rw[hj]at e;cases e
  | none=>
   rw[hj]at e
   by_cases q:k=j
   ·subst q
    rw[hr]at e
    exact e
   ·exact scanK_none hj k (by omega) hr
theorem iter_inv {p:List Ins}(I:List Ft→Prop)(hs:∀F G,I F→stepF p F=some G→I G):∀(j:Nat) (F:List Ft),I F→I (iterF p j F)
 | 0,F,h=>h
 | j+1,F,h=>by
  unfold iterF
  cases e:stepF p F with
  | none=>exact h
  | some G=>exact iter_inv I hs j G (hs F G h e)
theorem step_lt {p:List Ins}(hx:∀x∈p,x.ok)(hc:(zu_ p).2=0){F G:List Ft}(hl:F.length=p.length)(h:stepF p F=some G):sumF G < sumF F∧G.length=F.length:=by
 obtain⟨k,t,f,hk,hr,hm,hu⟩:=scanK_some h
 obtain⟨m1,m2,m3,_⟩:=hands_mem (right_at hx hc hk) hm
 exact updF_lt (by omega) (by rw[m1];exact hr) hu
theorem iter_fix {p:List Ins}(hx:∀x∈p,x.ok)(hc:(zu_ p).2=0):∀(j:Nat) (F:List Ft),F.length=p.length→sumF F≤j→stepF p (iterF p j F)=none
 | 0,F,hl,hs=>by
  unfold iterF
  cases e:stepF p F with
  | none=>rfl
  | some G=>have:=(step_lt hx hc hl e).1;omega
 | j+1,F,hl,hs=>by
  unfold iterF
  cases e:stepF p F with
  | none=>exact e
  | some G=>
   have h:=step_lt hx hc hl e
   exact iter_fix hx hc j G (by omega) (by omega)
theorem facts_fix {p:List Ins}(hx:∀x∈p,x.ok)(hc:(zu_ p).2=0):stepF p (zr_ p)=none:=iter_fix hx hc _ _ (initF_len _) (initF_sum _)
theorem ftB_eq {a b:Ft}(h:ftB a b=true):a.reached=b.reached∧∀r,r < 8→a.regs r=b.regs r:=by
 simp[ftB]at h
 obtain⟨h0,q0,q1,q2,q3,q4,q5,q6,q7⟩:=h
 refine⟨h0,fun r hr=>?_⟩
 rcases r with _|_|_|_|_|_|_|_|r
 all_goals first|assumption|omega
theorem facts_closed {p:List Ins}(hx:∀x∈p,x.ok)(hc:(zu_ p).2=0){k:Nat}(hk:k < p.length)(hr:(zs_ (zr_ p) k).reached=true){t:Int}{h:Ft}(hm:(t,h)∈xf_ (p.getD k ⟨0,0,0,0,0⟩) k (zs_ (zr_ p) k)) :
  (zs_ (zr_ p) t.toNat).reached=true∧∀r,r < 8→((zs_ (zr_ p) t.toNat).regs r).is_=true→h.regs r=(zs_ (zr_ p) t.toNat).regs r:=by
 have hu:=scanY_none (scanK_none (facts_fix hx hc) k hk hr) t h hm
 obtain⟨m1,_⟩:=hands_mem (right_at hx hc hk) hm
 unfold updF at hu
 split at hu
 ·rename_i q
  obtain⟨q1,q2⟩:=ftB_eq q
  cases ho:(zs_ (zr_ p) t.toNat).reached with
  | false=>
   unfold joinF at q1
   rw[ho]at q1
   rw[hr]at m1
   simp[m1]at q1
  | true=>
   refine⟨rfl,fun r hr8 hi=>?_⟩
   have:=q2 r hr8
   unfold joinF at this
   rw[ho]at this
   simp only[if_true,meetR,meetK]at this
   split at this
   ·rename_i e;exact e.symm
   ·rw[←this]at hi;cases hi
 ·cases hu
theorem getF_set {F:List Ft}{t k:Nat}{g:Ft}(ht:t < F.length):zs_ (F.set t g) k=if k=t then g else zs_ F k:=by
 unfold zs_
 simp only[List.getD_eq_getElem?_getD,List.getElem?_set]
 by_cases q:t=k
 ·subst q;simp[ht]
 ·rw[if_neg q,if_neg (fun e=>q e.symm)]
def Norm (r:Nat→Kn):Prop:=∀q,(r q).is_=false→(r q).n=0
theorem resK_norm {x:Ins}{r:Nat→Kn}(h:Norm r)(h2:32 < x.op→(resK x r).2=true):(resK x r).1.is_=false→(resK x r).1.n=0:=by
 unfold resK at h2 ⊢
 split
 ·intro e;cases e
 ·split
  ·exact h _
  ·split
   ·intro _;rfl
   ·rename_i q1 q2 q3
    rw[if_neg q1,if_neg q2,if_neg q3]at h2
    split
    ·intro _;rfl
    ·rename_i q4
     rw[if_neg q4]at h2
     split
     ·intro _;rfl
     ·rename_i q5
      rw[if_neg q5]at h2
      intro e
      have:=h2 (by omega)
      exact absurd (this.symm.trans e) (by decide)
theorem setK_norm {r:Nat→Kn}{a:Nat}{y:Kn}(h:Norm r)(hy:y.is_=false→y.n=0):Norm (setK r a y):=by
 intro q
 unfold setK
 split
 ·exact hy
 ·exact h q
theorem meetR_norm {a b:Nat→Kn}(h:Norm a):Norm (meetR a b):=by
 intro q
 unfold meetR meetK
 split
 ·exact h q
 ·intro _;rfl
structure FI (S:Nat→Prop) (n:Nat) (F:List Ft):Prop where
 len:F.length=n
 norm:∀k,Norm (zs_ F k).regs
 zero:∀k,(zs_ F k).reached=false→zs_ F k=F0
 r0:(zs_ F 0).reached=true
 at0:∀r,(zs_ F 0).regs r=K0∨3≤r∧(zs_ F 0).regs r=⟨true,0⟩
 sub:∀k,(zs_ F k).reached=true→S k
theorem initF_0 {n:Nat}(h:0 < n):zs_ (initF n) 0=⟨true,fun k=>if 3≤k∧k < 8 then ⟨true,0⟩ else K0⟩:=by
 unfold initF
 rw[getF_set (by simpa using h),if_pos rfl]
theorem initF_s {n q:Nat}(h:0 < n)(hq:q≠0):zs_ (initF n) q=F0:=by
 unfold initF
 rw[getF_set (by simpa using h),if_neg hq]
 unfold zs_
 rw[List.getD_eq_getElem?_getD,List.getElem?_replicate]
 split<;>rfl
theorem init_FI {S:Nat→Prop}{n:Nat}(h:0 < n)(hS:S 0):FI S n (initF n):=by
 refine⟨initF_len n,fun k=>?_,fun k hk=>?_,by rw[initF_0 h],fun r=>?_,fun k hk=>?_⟩
 ·by_cases q:k=0
  ·subst q
   rw[initF_0 h]
   intro r
   show (if 3≤r∧r < 8 then(⟨true,0⟩:Kn)else K0).is_=false→(if 3≤r∧r < 8 then(⟨true,0⟩:Kn)else K0).n=0
   split<;>intro _<;>rfl
  ·rw[initF_s h q];intro r _;rfl
 ·by_cases q:k=0
  ·subst q;rw[initF_0 h]at hk;cases hk
  ·exact initF_s h q
 ·rw[initF_0 h]
  show (if 3≤r∧r < 8 then(⟨true,0⟩:Kn)else K0)=K0∨3≤r∧(if 3≤r∧r < 8 then(⟨true,0⟩:Kn)else K0)=⟨true,0⟩
  split
  ·rename_i q;exact .inr ⟨q.1,rfl⟩
  ·exact .inl rfl
 ·by_cases q:k=0
  ·subst q;exact hS
  ·rw[initF_s h q]at hk;cases hk
theorem step_FI {S:Nat→Prop}{p:List Ins}(hx:∀x∈p,x.ok)(hc:(zu_ p).2=0)(hS:∀k,k < p.length→S k→(goesB (p.getD k ⟨0,0,0,0,0⟩)=true→S (k+1))∧(xj_ (p.getD k ⟨0,0,0,0,0⟩)=true→S (targV (p.getD k ⟨0,0,0,0,0⟩)).toNat)){F G:List Ft}(I:FI S p.length F)(h:stepF p F=some G):FI S p.length G:=by
 obtain⟨k,t,f,hk,hr,hm,hu⟩:=scanK_some h
 obtain⟨m1,m2,m3,m4,m5⟩:=hands_mem (right_at hx hc hk) hm
 have hl:=I.len
 have htl:t.toNat < F.length:=by omega
 have hSt:S t.toNat:=by
  obtain⟨s1,s2⟩:=hS k hk (I.sub k hr)
  rcases m4 with ⟨rfl,e⟩|⟨rfl,e⟩
  ·have:=s1 e;rwa [show ((k:Int)+1).toNat=k+1 by omega]
  ·exact s2 e
 have hfn:Norm f.regs:=by
  rcases m5 with e|⟨e,e2⟩
  ·rw[e];exact I.norm k
  ·rw[e];exact setK_norm (I.norm k) (resK_norm (I.norm k) e2)
 have hG:G=F.set t.toNat (joinF (zs_ F t.toNat) f):=by
  unfold updF at hu
  split at hu
  ·cases hu
  ·injection hu with e;exact e.symm
 have hj:(joinF (zs_ F t.toNat) f).reached=true∧Norm (joinF (zs_ F t.toNat) f).regs:=by
  unfold joinF
  split
  ·rename_i q;exact⟨q,meetR_norm (I.norm _)⟩
  ·exact⟨by rw[m1];exact hr,hfn⟩
 subst hG
 refine⟨by rw[List.length_set];exact hl,fun j=>?_,fun j hj2=>?_,?_,fun r=>?_,fun j hj2=>?_⟩
 ·rw[getF_set htl]
  split
  ·exact hj.2
  ·exact I.norm j
 ·rw[getF_set htl]at hj2 ⊢
  split at hj2
  ·rw[hj.1]at hj2;cases hj2
  ·rename_i q;rw[if_neg q];exact I.zero j hj2
 ·rw[getF_set htl]
  split
  ·exact hj.1
  ·exact I.r0
 ·rw[getF_set htl]
  split
  ·rename_i q
   rw[←q]
   unfold joinF
   rw[I.r0]
   simp only[if_true,meetR,meetK]
   split
   ·exact I.at0 r
   ·exact .inl rfl
  ·exact I.at0 r
 ·rw[getF_set htl]at hj2
  split at hj2
  ·rename_i q;rw[q];exact hSt
  ·exact I.sub j hj2
theorem facts_FI {S:Nat→Prop}{p:List Ins}(hx:∀x∈p,x.ok)(hc:(zu_ p).2=0)(h0:S 0)(hS:∀k,k < p.length→S k→(goesB (p.getD k ⟨0,0,0,0,0⟩)=true→S (k+1))∧(xj_ (p.getD k ⟨0,0,0,0,0⟩)=true→S (targV (p.getD k ⟨0,0,0,0,0⟩)).toNat)):FI S p.length (zr_ p):=
 iter_inv (FI S p.length) (fun F G I h=>step_FI hx hc hS I h) _ _ (init_FI (yr_ hc).1 h0)
theorem facts_FI' {p:List Ins}(hx:∀x∈p,x.ok)(hc:(zu_ p).2=0):FI (fun _=>True) p.length (zr_ p):=facts_FI hx hc trivial fun _ _ _=>⟨fun _=>trivial,fun _=>trivial⟩
theorem wrapR (n:Int):R64 (wrap64 n):=by
 unfold wrap64
 constructor<;>omega
theorem iwrapR (n:Int):R64 (IntKind.i64.wrap n):=by
 rw[IntKind.wrap_i64]
 constructor<;>omega
theorem truR (b:Bool):R64 (truthI b):=by cases b<;>(constructor<;>decide)
theorem zero_R:R64 0:=by constructor<;>decide
theorem tmodR {a:Int}(b:Int)(h:R64 a):R64 (a.tmod b):=by
 have h1:(a.tmod b).natAbs≤a.natAbs:=by rw[Int.natAbs_tmod];exact Nat.mod_le _ _
 have h2:0≤a→0≤a.tmod b:=fun h=>Int.tmod_nonneg b h
 have h3:a≤0→a.tmod b≤0:=fun h=>by
  have:=Int.tmod_nonneg b (show 0≤-a by omega)
  rw[Int.neg_tmod]at this
  omega
 obtain⟨k1,k2⟩:=h
 constructor<;>omega
theorem shrR {a:Int}(n:Nat)(h:R64 a):R64 (a / 2 ^ n):=by
 obtain⟨k1,k2⟩:=h
 have hp:(0:Int) < 2 ^ n:=Int.pow_pos (by decide)
 obtain⟨m,hm⟩:∃m:Int,2 ^ n=m:=⟨_,rfl⟩
 rw[hm]at hp ⊢
 refine⟨Int.le_ediv_of_mul_le hp (by omega),?_⟩
 have:a / m < 9223372036854775808:=Int.ediv_lt_of_lt_mul hp (by omega)
 omega
theorem applyV_R (op a b:Int)(ha:R64 a)(hb:R64 b):R64 (ye_ op a b):=by
 by_cases h0:z9_ op b=0
 ·have hop:op=1∨op=2∨op=3∨op=4∨op=5∨op=6∨op=7∨op=8∨op=9∨op=10∨op=11∨op=12∨op=13∨op=14∨op=15∨op=16∨op=17:=by
   by_cases h:op < 1∨17 < op
   ·rw[z9_,if_pos h]at h0;exact absurd h0 (by decide)
   ·omega
  rw[ye_,if_pos h0]
  clear h0
  rcases hop with h|h|h|h|h|h|h|h|h|h|h|h|h|h|h|h|h<;>subst h
  ·rw[z3_,if_pos rfl];exact wrapR _
  ·rw[z3_,if_neg (by decide),if_pos rfl];exact wrapR _
  ·rw[z3_,if_neg (by decide),if_neg (by decide),if_pos rfl];exact wrapR _
  ·rw[z3_,if_neg (by decide),if_neg (by decide),if_neg (by decide),if_pos rfl];exact wrapR _
  ·rw[z3_,if_neg (by decide),if_neg (by decide),if_neg (by decide),if_neg (by decide),if_pos rfl];exact tmodR b ha
  ·rw[z3_,if_neg (by decide),if_neg (by decide),if_neg (by decide),if_neg (by decide),if_neg (by decide),if_pos rfl]
   unfold modI
   split
   ·exact tmodR b ha
   ·split<;>exact wrapR _
  ·rw[z3_,if_neg (by decide),if_neg (by decide),if_neg (by decide),if_neg (by decide),if_neg (by decide),if_neg (by decide),if_pos rfl];exact iwrapR _
  ·rw[z3_,if_neg (by decide),if_neg (by decide),if_neg (by decide),if_neg (by decide),if_neg (by decide),if_neg (by decide),if_neg (by decide),if_pos rfl];exact iwrapR _
  ·rw[z3_,if_neg (by decide),if_neg (by decide),if_neg (by decide),if_neg (by decide),if_neg (by decide),if_neg (by decide),if_neg (by decide),if_neg (by decide),if_pos rfl];exact iwrapR _
  ·rw[z3_,if_neg (by decide),if_neg (by decide),if_neg (by decide),if_neg (by decide),if_neg (by decide),if_neg (by decide),if_neg (by decide),if_neg (by decide),if_neg (by decide),if_pos rfl];exact wrapR _
  ·rw[z3_,if_neg (by decide),if_neg (by decide),if_neg (by decide),if_neg (by decide),if_neg (by decide),if_neg (by decide),if_neg (by decide),if_neg (by decide),if_neg (by decide),if_neg (by decide),if_pos rfl];exact wrapR _
  ·rw[z3_,if_neg (by decide),if_neg (by decide),if_neg (by decide),if_neg (by decide),if_neg (by decide),if_neg (by decide),if_neg (by decide),if_neg (by decide),if_neg (by decide),if_neg (by decide),if_neg (by decide),if_pos rfl];exact shrR _ ha
  ·rw[z3_,if_neg (by decide),if_neg (by decide),if_neg (by decide),if_neg (by decide),if_neg (by decide),if_neg (by decide),if_neg (by decide),if_neg (by decide),if_neg (by decide),if_neg (by decide),if_neg (by decide),if_neg (by decide),if_pos rfl];exact truR _
  ·rw[z3_,if_neg (by decide),if_neg (by decide),if_neg (by decide),if_neg (by decide),if_neg (by decide),if_neg (by decide),if_neg (by decide),if_neg (by decide),if_neg (by decide),if_neg (by decide),if_neg (by decide),if_neg (by decide),if_neg (by decide),if_pos rfl];exact truR _
  ·rw[z3_,if_neg (by decide),if_neg (by decide),if_neg (by decide),if_neg (by decide),if_neg (by decide),if_neg (by decide),if_neg (by decide),if_neg (by decide),if_neg (by decide),if_neg (by decide),if_neg (by decide),if_neg (by decide),if_neg (by decide),if_neg (by decide),if_pos rfl];exact truR _
  ·rw[z3_,if_neg (by decide),if_neg (by decide),if_neg (by decide),if_neg (by decide),if_neg (by decide),if_neg (by decide),if_neg (by decide),if_neg (by decide),if_neg (by decide),if_neg (by decide),if_neg (by decide),if_neg (by decide),if_neg (by decide),if_neg (by decide),if_neg (by decide),if_pos rfl];split<;>assumption
  ·rw[z3_,if_neg (by decide),if_neg (by decide),if_neg (by decide),if_neg (by decide),if_neg (by decide),if_neg (by decide),if_neg (by decide),if_neg (by decide),if_neg (by decide),if_neg (by decide),if_neg (by decide),if_neg (by decide),if_neg (by decide),if_neg (by decide),if_neg (by decide),if_neg (by decide)];split<;>assumption
 ·rw[ye_,if_neg h0];exact zero_R
end Go.Proofs.Ytmljmabbopkpiaa.Vm
end

import Derived.Test.YtmljmabbopkpiaaC25
set_option linter.unusedSimpArgs false
set_option linter.unusedVariables false
section
namespace Go.Proofs.Ytmljmabbopkpiaa.Vm
open Go.RowKit
def bothK (a b:Kn):Kn:=if a.is_=true∧b.is_=true∧a.n=b.n then a else K0
def mixR (m:Nat)(a b:Nat→Kn):Nat→Kn:=fun r=>if r < m then bothK (a r) (b r)else a r
def joinT (a b:Ft):Ft:=if a.reached=false then b else if b.reached=false then a else ⟨a.reached,mixR 8 a.regs b.regs⟩
def yn_ (i:Ins)(f:Ft):Ft:=
 if f.reached=false∨i.op=1∨i.op=2 then F0
 else if i.op=3 then ⟨f.reached,setK f.regs i.a.toNat ⟨true,i.n⟩⟩
 else if i.op=4 then ⟨f.reached,setK f.regs i.a.toNat (f.regs i.b.toNat)⟩
 else if i.op=5∨i.op=7 then ⟨f.reached,setK f.regs i.a.toNat K0⟩
 else if 32 < i.op then
  if divB i.op=true∧f.regs i.c.toNat=⟨true,0⟩ then F0
  else if (f.regs i.b.toNat).is_=false∨(f.regs i.c.toNat).is_=false then ⟨f.reached,setK f.regs i.a.toNat K0⟩
  else if z9_ (i.op - 32) (f.regs i.c.toNat).n≠0 then F0
  else ⟨f.reached,setK f.regs i.a.toNat ⟨true,ye_ (i.op - 32) (f.regs i.b.toNat).n (f.regs i.c.toNat).n⟩⟩
 else f
def goesR (i:Ins)(k t:Int)(f:Ft):Bool:=
 if (f.regs i.a.toNat).is_=true∧(i.op=10∨i.op=11)then
  (if i.op=10∧(f.regs i.a.toNat).n=0∨i.op=11∧(f.regs i.a.toNat).n < 0 then decide (targV i=t)else(goesB i && decide (t=k+1)))
 else(goesB i && decide (t=k+1)) ||(xj_ i && decide (targV i=t))
def begF:Ft:=⟨true,fun k=>if 3≤k∧k < 8 then ⟨true,0⟩ else K0⟩
def colF (p:List Ins)(J:List Ft)(k:Nat):Nat→Ft
 | 0=>if k=0 then begF else F0
 | i+1=>if (zs_ J i).reached=true∧goesR (p.getD i ⟨0,0,0,0,0⟩) i k (zs_ J i)=true then joinT (colF p J k i) (yn_ (p.getD i ⟨0,0,0,0,0⟩) (zs_ J i))else colF p J k i
def jacF (p:List Ins)(J:List Ft):List Ft:=(List.range p.length).map fun k=>colF p J k p.length
def Le (a b:Ft):Prop:=a.reached=true→b.reached=true∧∀r,r < 8→(b.regs r).is_=true→a.regs r=b.regs r
theorem Le.refl (a:Ft):Le a a:=fun h=>⟨h,fun _ _ _=>rfl⟩
theorem Le.trans {a b c:Ft}(h1:Le a b)(h2:Le b c):Le a c:=fun h=>by
 obtain⟨b1,b2⟩:=h1 h
 obtain⟨c1,c2⟩:=h2 b1
 exact⟨c1,fun r hr hi=>(b2 r hr (by rw[c2 r hr hi];exact hi)).trans (c2 r hr hi)⟩
theorem Le.bot {b:Ft}:Le F0 b:=fun h=>by cases h
theorem Le.no {a b:Ft}(h:a.reached=false):Le a b:=fun e=>by rw[h]at e;cases e
theorem bothK_is {a b:Kn}(h:(bothK a b).is_=true):a=bothK a b∧b=bothK a b:=by
 unfold bothK at h ⊢
 split
 ·rename_i q
  obtain⟨q1,q2,q3⟩:=q
  obtain⟨a1,a2⟩:=a
  obtain⟨b1,b2⟩:=b
  dsimp only at q1 q2 q3
  subst q1 q2 q3
  exact⟨rfl,rfl⟩
 ·rename_i q;rw[if_neg q]at h;cases h
theorem joinT_l (a b:Ft):Le a (joinT a b):=fun h=>by
 unfold joinT
 rw[if_neg (by rw[h];decide)]
 split
 ·exact⟨h,fun _ _ _=>rfl⟩
 ·refine⟨h,fun r hr hi=>?_⟩
  dsimp only[mixR]at hi ⊢
  rw[if_pos hr]at hi ⊢
  exact(bothK_is hi).1
theorem joinT_r (a b:Ft):Le b (joinT a b):=fun h=>by
 unfold joinT
 split
 ·exact⟨h,fun _ _ _=>rfl⟩
 ·rename_i q
  rw[if_neg (by rw[h];decide)]
  refine⟨by simpa using q,fun r hr hi=>?_⟩
  dsimp only[mixR]at hi ⊢
  rw[if_pos hr]at hi ⊢
  exact(bothK_is hi).2
theorem joinT_lub {a b c:Ft}(h1:Le a c)(h2:Le b c):Le (joinT a b) c:=by
 unfold joinT
 split
 ·exact h2
 split
 ·exact h1
 rename_i q1 q2
 have q1:a.reached=true:=by simpa using q1
 have q2:b.reached=true:=by simpa using q2
 intro _
 obtain⟨c1,c2⟩:=h1 q1
 obtain⟨d1,d2⟩:=h2 q2
 refine⟨c1,fun r hr hi=>?_⟩
 dsimp only[mixR]
 rw[if_pos hr]
 have e1:=c2 r hr hi
 have e2:=d2 r hr hi
 unfold bothK
 rw[e1,e2,if_pos ⟨hi,hi,rfl⟩]
theorem setK_le {c d:Bool}{f g:Nat→Kn}{a:Nat}{y z:Kn}(hd:d=true)(h:∀r,r < 8→(g r).is_=true→f r=g r)(hy:z.is_=true→y=z):Le ⟨c,setK f a y⟩ ⟨d,setK g a z⟩:=fun _=>by
 refine⟨hd,fun r hr hi=>?_⟩
 dsimp only[setK]at hi ⊢
 split
 ·rename_i q;rw[if_pos q]at hi;exact hy hi
 ·rename_i q;rw[if_neg q]at hi;exact h r hr hi
theorem afterF_go {x:Ins}{f:Ft}(hf:f.reached=true)(h1:¬x.op=1)(h2:¬x.op=2):yn_ x f=if x.op=3 then ⟨f.reached,setK f.regs x.a.toNat ⟨true,x.n⟩⟩ else if x.op=4 then ⟨f.reached,setK f.regs x.a.toNat (f.regs x.b.toNat)⟩ else if x.op=5∨x.op=7 then ⟨f.reached,setK f.regs x.a.toNat K0⟩ else if 32 < x.op then
  if divB x.op=true∧f.regs x.c.toNat=⟨true,0⟩ then F0
  else if (f.regs x.b.toNat).is_=false∨(f.regs x.c.toNat).is_=false then ⟨f.reached,setK f.regs x.a.toNat K0⟩
  else if z9_ (x.op - 32) (f.regs x.c.toNat).n≠0 then F0
  else ⟨f.reached,setK f.regs x.a.toNat ⟨true,ye_ (x.op - 32) (f.regs x.b.toNat).n (f.regs x.c.toNat).n⟩⟩ else f:=by
 unfold yn_
 rw[if_neg (by rw[hf];simp[h1,h2])]
theorem afterF_f {x:Ins}{f:Ft}(hf:f.reached=true)(h1:¬x.op=1)(h2:¬x.op=2)(h3:¬x.op=3)(h4:¬x.op=4)(h5:¬(x.op=5∨x.op=7))(h6:¬32 < x.op):yn_ x f=f:=by
 rw[afterF_go hf h1 h2,if_neg h3,if_neg h4,if_neg h5,if_neg h6]
theorem afterF_op {x:Ins}{f:Ft}(hf:f.reached=true)(h:32 < x.op):yn_ x f =
  if divB x.op=true∧f.regs x.c.toNat=⟨true,0⟩ then F0
  else if (f.regs x.b.toNat).is_=false∨(f.regs x.c.toNat).is_=false then ⟨f.reached,setK f.regs x.a.toNat K0⟩
  else if z9_ (x.op - 32) (f.regs x.c.toNat).n≠0 then F0
  else ⟨f.reached,setK f.regs x.a.toNat ⟨true,ye_ (x.op - 32) (f.regs x.b.toNat).n (f.regs x.c.toNat).n⟩⟩:=by
 rw[afterF_go hf (by omega) (by omega),if_neg (by omega),if_neg (by omega),if_neg (by omega),if_pos h]
theorem resK_op {x:Ins}{r:Nat→Kn}(h:32 < x.op):resK x r=if divB x.op=true∧r x.c.toNat=⟨true,0⟩ then(K0,false)else if (r x.b.toNat).is_=false∨(r x.c.toNat).is_=false then(K0,true)else(⟨z9_ (x.op - 32) (r x.c.toNat).n == 0,ye_ (x.op - 32) (r x.b.toNat).n (r x.c.toNat).n⟩,z9_ (x.op - 32) (r x.c.toNat).n == 0):=by
 unfold resK
 rw[if_neg (by omega),if_neg (by omega),if_neg (by omega)]
theorem after_reg {x:Ins}{f:Ft}(hf:f.reached=true)(q:x.op=3∨x.op=4∨x.op=5∨x.op=7):(⟨f.reached,setK f.regs x.a.toNat (resK x f.regs).1⟩:Ft)=yn_ x f:=by
 rw[afterF_go hf (by omega) (by omega)]
 rcases q with q|q|q|q
 ·rw[if_pos q,show (resK x f.regs).1=⟨true,x.n⟩ by unfold resK;rw[if_pos q]]
 ·rw[if_neg (by omega),if_pos q,show (resK x f.regs).1=f.regs x.b.toNat by unfold resK;rw[if_neg (by omega),if_pos q]]
 ·rw[if_neg (by omega),if_neg (by omega),if_pos (.inl q),show (resK x f.regs).1=K0 by unfold resK;rw[if_neg (by omega),if_neg (by omega),if_pos (by omega)]]
 ·rw[if_neg (by omega),if_neg (by omega),if_pos (.inr q),show (resK x f.regs).1=K0 by unfold resK;rw[if_neg (by omega),if_neg (by omega),if_pos (by omega)]]
theorem after_opt {x:Ins}{f:Ft}(hf:f.reached=true)(q:32 < x.op)(h:(resK x f.regs).2=true):(⟨f.reached,setK f.regs x.a.toNat (resK x f.regs).1⟩:Ft)=yn_ x f:=by
 rw[afterF_op hf q]
 rw[resK_op q]at h ⊢
 split
 ·rename_i z;rw[if_pos z]at h;cases h
 ·rename_i z
  rw[if_neg z]at h
  split
  ·rfl
  ·rename_i z2
   rw[if_neg z2]at h
   have h:z9_ (x.op - 32) (f.regs x.c.toNat).n=0:=by simpa using h
   rw[if_neg (by rw[h];decide),h]
   rfl
theorem after_opr {x:Ins}{f:Ft}(hf:f.reached=true)(q:32 < x.op)(h:(yn_ x f).reached=true):(resK x f.regs).2=true:=by
 rw[afterF_op hf q]at h
 rw[resK_op q]
 split
 ·rename_i z;rw[if_pos z]at h;cases h
 ·rename_i z
  rw[if_neg z]at h
  split
  ·rfl
  ·rename_i z2
   rw[if_neg z2]at h
   split at h
   ·cases h
   ·rename_i z3
    simpa using z3
theorem afterF_hands {n k:Nat}{x:Ins}(hR:RightI n k x){f:Ft}(hf:f.reached=true){t:Int}{h:Ft}(hm:(t,h)∈xf_ x k f):goesR x k t f=true∧h=yn_ x f:=by
 have hg:=goesB_of hR.one
 have ht:=targB_of hR.one
 have nf:¬(f.reached=false):=by rw[hf];decide
 have key:∀{f':Ft},(t,h)∈emitL x k (goesB x) (xj_ x) f'→¬((f.regs x.a.toNat).is_=true∧(x.op=10∨x.op=11))→f'=yn_ x f→goesR x k t f=true∧h=yn_ x f:=by
  intro f' hm hn hf'
  obtain⟨rfl,h5⟩:=mem_emit hm
  refine⟨?_,hf'⟩
  unfold goesR
  rw[if_neg hn]
  rcases h5 with ⟨e,rfl⟩|⟨e,rfl⟩
  ·simp[e]
  ·simp[e]
 unfold xf_ at hm
 split at hm
 ·rename_i q
  exact key hm (by omega) (after_reg hf q)
 split at hm
 ·rename_i q1 q
  exact key hm (by omega) (afterF_f hf (by omega) (by omega) (by omega) (by omega) (by omega) (by omega)).symm
 split at hm
 ·rename_i q1 q2 q
  have ea:yn_ x f=f:=afterF_f hf (by omega) (by omega) (by omega) (by omega) (by omega) (by omega)
  split at hm
  ·rename_i qi
   unfold goesR
   rw[if_pos ⟨qi,q⟩,ea]
   split at hm
   ·rename_i qz
    rw[if_pos (by simpa using qz)]
    obtain⟨rfl,h5⟩:=mem_emit hm
    rcases h5 with ⟨e,rfl⟩|⟨e,rfl⟩
    ·cases e
    ·simp
   ·rename_i qz
    rw[if_neg (by simpa using qz)]
    obtain⟨rfl,h5⟩:=mem_emit hm
    rcases h5 with ⟨e,rfl⟩|⟨e,rfl⟩
    ·refine⟨?_,rfl⟩
     rw[hg]
     rcases q with q|q<;>simp[q]
    ·cases e
  ·rename_i qi
   exact key hm (fun e=>qi e.1) ea.symm
 split at hm
 ·rename_i q1 q2 q3 q
  split at hm
  ·rename_i qr
   have hgo:goesB x=true:=by rw[hg];simp;omega
   rw[←hgo]at hm
   exact key hm (by omega) (after_opt hf q qr)
  ·cases hm
 ·rename_i q1 q2 q3 q4
  have hcl:=hR.cls
  have hop:x.op=1∨x.op=2∨x.op=9:=by omega
  rcases hop with q|q|q
  ·rw[hg,ht,q]at hm
   simp[emitL]at hm
  ·rw[hg,ht,q]at hm
   simp[emitL]at hm
  ·exact key hm (by omega) (afterF_f hf (by omega) (by omega) (by omega) (by omega) (by omega) (by omega)).symm
theorem hands_afterF {n k:Nat}{x:Ins}(hR:RightI n k x){f:Ft}(hf:f.reached=true){t:Int}(hg0:goesR x k t f=true)(ha:(yn_ x f).reached=true):(t,yn_ x f)∈xf_ x k f:=by
 have hg:=goesB_of hR.one
 have ht:=targB_of hR.one
 have nf:¬(f.reached=false):=by rw[hf];decide
 have n12:¬(x.op=1∨x.op=2):=fun e=>by
  unfold yn_ at ha
  rw[if_pos (.inr e)]at ha
  cases ha
 have key:∀{f':Ft},¬((f.regs x.a.toNat).is_=true∧(x.op=10∨x.op=11))→f'=yn_ x f→(t,yn_ x f)∈emitL x k (goesB x) (xj_ x) f':=by
  intro f' hn hf'
  unfold goesR at hg0
  rw[if_neg hn]at hg0
  rw[←hf']
  simp only[Bool.or_eq_true,Bool.and_eq_true,decide_eq_true_eq]at hg0
  rcases hg0 with ⟨e,rfl⟩|⟨e,rfl⟩
  ·exact emit_go e
  ·exact emit_to e
 unfold xf_
 split
 ·rename_i q
  exact key (by omega) (after_reg hf q)
 split
 ·rename_i q1 q
  exact key (by omega) (afterF_f hf (by omega) (by omega) (by omega) (by omega) (by omega) (by omega)).symm
 split
 ·rename_i q1 q2 q
  have ea:yn_ x f=f:=afterF_f hf (by omega) (by omega) (by omega) (by omega) (by omega) (by omega)
  split
  ·rename_i qi
   unfold goesR at hg0
   rw[if_pos ⟨qi,q⟩]at hg0
   rw[ea]
   split
   ·rename_i qz
    rw[if_pos (by simpa using qz)]at hg0
    obtain rfl:=of_decide_eq_true hg0
    exact emit_to rfl
   ·rename_i qz
    rw[if_neg (by simpa using qz)]at hg0
    simp only[Bool.and_eq_true,decide_eq_true_eq]at hg0
    obtain⟨_,rfl⟩:=hg0
    exact emit_go rfl
  ·rename_i qi
   exact key (fun e=>qi e.1) ea.symm
 split
 ·rename_i q1 q2 q3 q
  have hgo:goesB x=true:=by rw[hg];simp;omega
  have hr2:=after_opr hf q ha
  rw[if_pos hr2,←hgo]
  exact key (by omega) (after_opt hf q hr2)
 ·rename_i q1 q2 q3 q4
  have hcl:=hR.cls
  have hop:x.op=9:=by omega
  exact key (by omega) (afterF_f hf (by omega) (by omega) (by omega) (by omega) (by omega) (by omega)).symm
theorem after_mono {n k:Nat}{x:Ins}(hR:RightI n k x){f g:Ft}(h:Le f g)(hf:f.reached=true){t:Int}(hg0:goesR x k t f=true)(ha:(yn_ x f).reached=true):goesR x k t g=true∧Le (yn_ x f) (yn_ x g):=by
 have hg:=goesB_of hR.one
 have ht:=targB_of hR.one
 obtain⟨g1,g2⟩:=h hf
 have ra:=hR.a
 have rb:=hR.b
 have rc:=hR.c
 have ok:=hR.ok
 have oa:=ok.a0
 have ob:=ok.b0
 have oc:=ok.c0
 have ga:=g2 x.a.toNat (by omega)
 have gb:=g2 x.b.toNat (by omega)
 have gc:=g2 x.c.toNat (by omega)
 constructor
 ·unfold goesR at hg0 ⊢
  by_cases q:x.op=10∨x.op=11
  ·by_cases qi:(g.regs x.a.toNat).is_=true
   ·rw[if_pos ⟨qi,q⟩]
    rw[if_pos ⟨by rw[ga qi];exact qi,q⟩,ga qi]at hg0
    exact hg0
   ·rw[if_neg (fun e=>qi e.1),hg,ht]
    by_cases qf:(f.regs x.a.toNat).is_=true
    ·rw[if_pos ⟨qf,q⟩]at hg0
     split at hg0
     ·obtain rfl:=of_decide_eq_true hg0
      rcases q with q|q<;>simp[q]
     ·simp only[Bool.and_eq_true,decide_eq_true_eq]at hg0
      obtain⟨_,rfl⟩:=hg0
      rcases q with q|q<;>simp[q]
    ·rw[if_neg (fun e=>qf e.1),hg,ht]at hg0
     exact hg0
  ·rw[if_neg (fun e=>q e.2)]at hg0 ⊢
   exact hg0
 ·unfold yn_ at ha ⊢
  split at ha
  ·cases ha
  rename_i q0
  rw[if_neg q0,if_neg (show ¬(g.reached=false∨x.op=1∨x.op=2) by rw[g1];simp;omega)]
  split
  ·exact setK_le g1 g2 fun _=>rfl
  split
  ·exact setK_le g1 g2 fun hi=>gb hi
  split
  ·exact setK_le g1 g2 fun hi=>rfl
  split
  ·rename_i q3 q4 q5 q
   rw[if_neg q3,if_neg q4,if_neg q5,if_pos q]at ha
   split at ha
   ·cases ha
   rename_i z
   rw[if_neg z]
   have zg:¬(divB x.op=true∧g.regs x.c.toNat=⟨true,0⟩):=fun e=>z ⟨e.1,by rw[gc (by rw[e.2])];exact e.2⟩
   rw[if_neg zg]
   by_cases u:(g.regs x.b.toNat).is_=false∨(g.regs x.c.toNat).is_=false
   ·rw[if_pos u]
    split
    ·exact setK_le g1 g2 fun hi=>rfl
    rename_i u2
    rw[if_neg u2]at ha
    split at ha
    ·cases ha
    rename_i z2
    rw[if_neg z2]
    exact setK_le g1 g2 fun hi=>by cases hi
   ·rw[if_neg u]
    simp only[not_or,Bool.not_eq_false]at u
    have eb:=gb u.1
    have ec:=gc u.2
    rw[eb,ec]at ha ⊢
    rw[if_neg (by simp[u.1,u.2])]at ha ⊢
    split at ha
    ·cases ha
    rename_i z2
    rw[if_neg z2,if_neg z2]
    exact setK_le g1 g2 fun _=>rfl
  ·exact h
theorem colF_le {p:List Ins}{J:List Ft}{k:Nat}{c:Ft}(h0:k=0→Le begF c):∀(n:Nat),(∀i,i < n→(zs_ J i).reached=true→goesR (p.getD i ⟨0,0,0,0,0⟩) i k (zs_ J i)=true→Le (yn_ (p.getD i ⟨0,0,0,0,0⟩) (zs_ J i)) c)→Le (colF p J k n) c
 | 0,h=>by
  unfold colF
  split
  ·exact h0 (by assumption)
  ·exact Le.bot
 | n+1,h=>by
  unfold colF
  split
  ·rename_i q
   exact joinT_lub (colF_le h0 n fun i hi=>h i (by omega)) (h n (by omega) q.1 q.2)
  ·exact colF_le h0 n fun i hi=>h i (by omega)
theorem beg_colF {p:List Ins}{J:List Ft}:∀(n:Nat),Le begF (colF p J 0 n)
 | 0=>Le.refl _
 | n+1=>by
  unfold colF
  split
  ·exact(beg_colF n).trans (joinT_l _ _)
  ·exact beg_colF n
theorem le_colF {p:List Ins}{J:List Ft}{k i:Nat}(h1:(zs_ J i).reached=true)(h2:goesR (p.getD i ⟨0,0,0,0,0⟩) i k (zs_ J i)=true):∀(n:Nat),i < n→Le (yn_ (p.getD i ⟨0,0,0,0,0⟩) (zs_ J i)) (colF p J k n)
 | 0,h=>by omega
 | n+1,h=>by
  unfold colF
  by_cases q:i=n
  ·subst q
   rw[if_pos ⟨h1,h2⟩]
   exact joinT_r _ _
  ·split
   ·exact(le_colF h1 h2 n (by omega)).trans (joinT_l _ _)
   ·exact le_colF h1 h2 n (by omega)
theorem jac_len (p:List Ins)(J:List Ft):(jacF p J).length=p.length:=by simp[jacF]
theorem jac_get {p:List Ins}{J:List Ft}{k:Nat}(hk:k < p.length):zs_ (jacF p J) k=colF p J k p.length:=by
 unfold zs_ jacF
 rw[List.getD_eq_getElem?_getD,List.getElem?_map,List.getElem?_range hk];rfl
theorem jac_out {p:List Ins}{J:List Ft}{k:Nat}(hk:p.length≤k):zs_ (jacF p J) k=F0:=by
 unfold zs_
 rw[List.getD_eq_getElem?_getD,List.getElem?_eq_none (by rw[jac_len];exact hk)];rfl
theorem col_mono {p:List Ins}(hx:∀x∈p,x.ok)(hc:(zu_ p).2=0){J G:List Ft}(h:∀k,k < p.length→Le (zs_ J k) (zs_ G k))(k:Nat):Le (colF p J k p.length) (colF p G k p.length):=by
 refine colF_le (fun e=>by subst e;exact beg_colF _) _ fun i hi h1 h2=>?_
 cases ha:(yn_ (p.getD i ⟨0,0,0,0,0⟩) (zs_ J i)).reached with
 | false=>exact Le.no ha
 | true=>
  obtain⟨m1,m2⟩:=after_mono (right_at hx hc hi) (h i hi) h1 h2 ha
  exact m2.trans (le_colF ((h i hi h1).1) m1 _ hi)
structure JI (p:List Ins) (J:List Ft):Prop where
 len:J.length=p.length
 norm:∀k,Norm (zs_ J k).regs
 zero:∀k,(zs_ J k).reached=false→zs_ J k=F0
 bd:∀k r,R64 ((zs_ J k).regs r).n
 up:∀k,k < p.length→Le (zs_ J k) (zs_ (jacF p J) k)
 le:∀k,k < p.length→Le (zs_ J k) (zs_ (zr_ p) k)
theorem getF_rep (n k:Nat):zs_ (List.replicate n F0) k=F0:=by
 unfold zs_
 rw[List.getD_eq_getElem?_getD,List.getElem?_replicate]
 split<;>rfl
theorem jac_init (p:List Ins):JI p (List.replicate p.length F0):=by
 refine⟨by simp,fun k=>?_,fun k _=>getF_rep _ _,fun k r=>?_,fun k _=>?_,fun k _=>?_⟩
 ·rw[getF_rep];intro q _;rfl
 ·rw[getF_rep];exact zero_R
 ·rw[getF_rep];exact Le.bot
 ·rw[getF_rep];exact Le.bot
theorem mix_norm {m:Nat}{a b:Nat→Kn}(h:Norm a):Norm (mixR m a b):=by
 intro q
 unfold mixR bothK
 split
 ·split
  ·exact h q
  ·intro _;rfl
 ·exact h q
structure Fine (f:Ft):Prop where
 norm:Norm f.regs
 zero:f.reached=false→f=F0
 bd:∀r,R64 (f.regs r).n
theorem fine0:Fine F0:=⟨fun _ _=>rfl,fun _=>rfl,fun _=>zero_R⟩
theorem fineB:Fine begF:=by
 refine⟨fun q h=>?_,fun h=>(by cases h),fun r=>?_⟩
 ·revert h
  dsimp only[begF]
  split
  ·intro h;cases h
  ·intro _;rfl
 ·dsimp only[begF]
  split<;>exact zero_R
theorem fine_join {a b:Ft}(ha:Fine a)(hb:Fine b):Fine (joinT a b):=by
 unfold joinT
 split
 ·exact hb
 split
 ·exact ha
 rename_i q1 q2
 refine⟨mix_norm ha.norm,fun h=>absurd h q1,fun r=>?_⟩
 dsimp only[mixR,bothK]
 split
 ·split
  ·exact ha.bd r
  ·exact zero_R
 ·exact ha.bd r
theorem fine_set {f:Ft}(hf:Fine f)(hr:f.reached=true){a:Nat}{y:Kn}(hy:y.is_=false→y.n=0)(hb:R64 y.n):Fine ⟨f.reached,setK f.regs a y⟩:=by
 refine⟨setK_norm hf.norm hy,fun h=>?_,fun r=>?_⟩
 ·dsimp only at h;rw[hr]at h;cases h
 ·dsimp only[setK]
  split
  ·exact hb
  ·exact hf.bd r
theorem fine_after {x:Ins}(ok:x.ok){f:Ft}(hf:Fine f):Fine (yn_ x f):=by
 unfold yn_
 split
 ·exact fine0
 rename_i q
 have hr:f.reached=true:=by
  cases h:f.reached
  ·exact absurd (.inl h) q
  ·rfl
 split
 ·exact fine_set hf hr (fun h=>by cases h) ⟨by have:=ok.n0;omega,by have:=ok.n1;omega⟩
 split
 ·exact fine_set hf hr (fun h=>hf.norm _ h) (hf.bd _)
 split
 ·exact fine_set hf hr (fun _=>rfl) zero_R
 split
 ·split
  ·exact fine0
  split
  ·exact fine_set hf hr (fun _=>rfl) zero_R
  split
  ·exact fine0
  exact fine_set hf hr (fun h=>by cases h) (applyV_R _ _ _ (hf.bd _) (hf.bd _))
 ·exact hf
theorem fine_col {p:List Ins}(hx:∀x∈p,x.ok){J:List Ft}(hJ:∀k,Fine (zs_ J k))(k:Nat):∀n,n≤p.length→Fine (colF p J k n)
 | 0,_=>by
  unfold colF
  split
  ·exact fineB
  ·exact fine0
 | n+1,hn=>by
  unfold colF
  split
  ·refine fine_join (fine_col hx hJ k n (by omega)) (fine_after (hx _ ?_) (hJ n))
   rw[List.getD_eq_getElem?_getD,List.getElem?_eq_getElem (by omega)];exact List.getElem_mem _
  ·exact fine_col hx hJ k n (by omega)
theorem JI.fine {p:List Ins}{J:List Ft}(h:JI p J)(k:Nat):Fine (zs_ J k):=⟨h.norm k,h.zero k,h.bd k⟩
theorem facts_beg {p:List Ins}(hx:∀x∈p,x.ok)(hc:(zu_ p).2=0):Le begF (zs_ (zr_ p) 0):=fun _=>by
 have I:=facts_FI' hx hc
 refine⟨I.r0,fun r hr hi=>?_⟩
 rcases I.at0 r with e|⟨h3,e⟩
 ·rw[e]at hi;cases hi
 ·rw[e];dsimp only[begF];rw[if_pos ⟨h3,hr⟩]
theorem jac_le {p:List Ins}(hx:∀x∈p,x.ok)(hc:(zu_ p).2=0){J:List Ft}(h:∀k,k < p.length→Le (zs_ J k) (zs_ (zr_ p) k)){k:Nat}(hk:k < p.length):Le (zs_ (jacF p J) k) (zs_ (zr_ p) k):=by
 rw[jac_get hk]
 refine colF_le (fun e=>by subst e;exact facts_beg hx hc) _ fun i hi h1 h2=>?_
 cases ha:(yn_ (p.getD i ⟨0,0,0,0,0⟩) (zs_ J i)).reached with
 | false=>exact Le.no ha
 | true=>
  have hR:=right_at hx hc hi
  obtain⟨m1,m2⟩:=after_mono hR (h i hi) h1 h2 ha
  have r1:=(h i hi h1).1
  have r2:=(m2 ha).1
  have hm:=hands_afterF hR r1 m1 r2
  obtain⟨c1,c2⟩:=facts_closed hx hc hi r1 hm
  rw[show ((k:Int)).toNat=k from Int.toNat_natCast k]at c1 c2
  exact m2.trans fun _=>⟨c1,c2⟩
theorem jac_step {p:List Ins}(hx:∀x∈p,x.ok)(hc:(zu_ p).2=0){J:List Ft}(h:JI p J):JI p (jacF p J):=by
 have hfine:∀k,Fine (zs_ (jacF p J) k):=fun k=>by
  by_cases hk:k < p.length
  ·rw[jac_get hk];exact fine_col hx h.fine k _ (Nat.le_refl _)
  ·rw[jac_out (by omega)];exact fine0
 refine⟨jac_len p J,fun k=>(hfine k).norm,fun k=>(hfine k).zero,fun k=>(hfine k).bd,fun k hk=>?_,fun k hk=>jac_le hx hc h.le hk⟩
 rw[jac_get hk,jac_get hk]
 exact col_mono hx hc h.up k
theorem ftB_le {a b:Ft}(h:ftB a b=true):Le a b:=fun hr=>by
 obtain⟨h1,h2⟩:=ftB_eq h
 exact⟨by rw[←h1];exact hr,fun r hr8 _=>h2 r hr8⟩
theorem facts_fine {p:List Ins}(hx:∀x∈p,x.ok)(hc:(zu_ p).2=0)(k:Nat):Norm (zs_ (zr_ p) k).regs∧((zs_ (zr_ p) k).reached=false→zs_ (zr_ p) k=F0):=⟨(facts_FI' hx hc).norm k,(facts_FI' hx hc).zero k⟩
theorem le_ftB' {a b:Ft}(ha:Norm a.regs∧(a.reached=false→a=F0))(hb:Norm b.regs∧(b.reached=false→b=F0))(h1:Le a b)(h2:Le b a):ftB a b=true:=by
 cases qa:a.reached with
 | false=>
  have hb0:b.reached=false:=by
   cases qb:b.reached with
   | false=>rfl
   | true=>rw[(h2 qb).1]at qa;cases qa
  rw[ha.2 qa,hb.2 hb0];rfl
 | true=>
  obtain⟨b1,b2⟩:=h1 qa
  obtain⟨a1,a2⟩:=h2 b1
  have e:∀r,r < 8→a.regs r=b.regs r:=fun r hr=>by
   cases q:(b.regs r).is_ with
   | true=>exact b2 r hr q
   | false=>
    cases q2:(a.regs r).is_ with
    | true=>exact(a2 r hr q2).symm
    | false=>
     have n1:=ha.1 r q2
     have n2:=hb.1 r q
     obtain⟨x1,x2⟩:∃x:Kn,a.regs r=x:=⟨_,rfl⟩
     obtain⟨y1,y2⟩:∃x:Kn,b.regs r=x:=⟨_,rfl⟩
     rw[x2]at q2 n1 ⊢
     rw[y2]at q n2 ⊢
     obtain⟨x1,x3⟩:=x1
     obtain⟨y1,y3⟩:=y1
     dsimp only at q2 n1 q n2
     rw[q2,n1,q,n2]
  unfold ftB
  rw[qa,b1,e 0 (by decide),e 1 (by decide),e 2 (by decide),e 3 (by decide),e 4 (by decide),e 5 (by decide),e 6 (by decide),e 7 (by decide)]
  simp
theorem jac_end {p:List Ins}(hx:∀x∈p,x.ok)(hc:(zu_ p).2=0){J:List Ft}(h:JI p J)(hs:∀k,k < p.length→ftB (zs_ (jacF p J) k) (zs_ J k)=true):∀k,k < p.length→ftB (zs_ (jacF p J) k) (zs_ (zr_ p) k)=true:=by
 have hI:=jac_step hx hc h
 have h2:(zr_ p).length=p.length∧∀k,k < p.length→Le (zs_ (zr_ p) k) (zs_ (jacF p J) k):=by
  refine iter_inv (p:=p) (fun F=>F.length=p.length∧∀k,k < p.length→Le (zs_ F k) (zs_ (jacF p J) k)) (fun F G hF hst=>?_) _ _ ⟨initF_len _,fun k hk=>?_⟩
  ·obtain⟨k,t,f,hk,hr,hm,hu⟩:=scanK_some hst
   have hR:=right_at hx hc hk
   obtain⟨m1,m2,m3,_⟩:=hands_mem hR hm
   obtain⟨g1,g2⟩:=afterF_hands hR hr hm
   have hkJ:Le (zs_ F k) (zs_ J k):=(hF.2 k hk).trans (ftB_le (hs k hk))
   have ha:(yn_ (p.getD k ⟨0,0,0,0,0⟩) (zs_ F k)).reached=true:=by rw[←g2,m1];exact hr
   obtain⟨a1,a2⟩:=after_mono hR hkJ hr g1 ha
   have htn:t.toNat < p.length:=by omega
   have a1':goesR (p.getD k ⟨0,0,0,0,0⟩) k (t.toNat:Int) (zs_ J k)=true:=by rw[Int.toNat_of_nonneg m2];exact a1
   have hL:Le f (zs_ (jacF p J) t.toNat):=by
    rw[g2,jac_get htn]
    exact a2.trans (le_colF (hkJ hr).1 a1' _ hk)
   have hG:G=F.set t.toNat (joinF (zs_ F t.toNat) f):=by
    unfold updF at hu
    split at hu
    ·cases hu
    ·injection hu with e;exact e.symm
   subst hG
   refine⟨by rw[List.length_set];exact hF.1,fun j hj=>?_⟩
   rw[getF_set (by rw[hF.1];exact htn)]
   split
   ·rename_i q
    subst q
    unfold joinF
    split
    ·rename_i qo
     intro _
     obtain⟨o1,o2⟩:=hF.2 _ htn qo
     have hfr:f.reached=true:=by rw[m1];exact hr
     obtain⟨l1,l2⟩:=hL hfr
     refine⟨o1,fun r hr8 hi=>?_⟩
     dsimp only[meetR,meetK]
     rw[o2 r hr8 hi,l2 r hr8 hi,if_pos rfl]
    ·exact hL
   ·exact hF.2 j hj
  ·by_cases q:k=0
   ·subst q
    rw[initF_0 hk,jac_get hk]
    exact beg_colF _
   ·rw[initF_s (by omega) q];exact Le.bot
 intro k hk
 exact le_ftB' ⟨hI.norm k,hI.zero k⟩ (facts_fine hx hc k) (hI.le k hk) (h2.2 k hk)
theorem wF_le {a b:Ft}(ha:Fine a)(hb:Fine b)(h:Le a b):wF b≤wF a∧(ftB b a=false→wF b < wF a):=by
 unfold wF
 cases qa:a.reached with
 | false=>
  cases qb:b.reached with
  | false=>
   refine⟨Nat.le_refl _,fun e=>?_⟩
   rw[ha.zero qa,hb.zero qb]at e
   exact absurd e (by decide)
  | true=>
   have:=cntR_le b.regs
   simp only[if_true,Bool.false_eq_true,if_false]
   exact⟨by omega,fun _=>by omega⟩
 | true=>
  obtain⟨b1,b2⟩:=h qa
  rw[b1]
  simp only[if_true]
  have m:∀r,r < 8→one01 (b.regs r)≤one01 (a.regs r)∧(b.regs r≠a.regs r→one01 (b.regs r) < one01 (a.regs r)):=fun r hr=>by
   cases q:(b.regs r).is_ with
   | true=>rw[b2 r hr q];exact⟨Nat.le_refl _,fun e=>absurd rfl e⟩
   | false=>
    have n2:=hb.norm r q
    have e0:b.regs r=K0:=by
     obtain⟨y1,y2⟩:∃x:Kn,b.regs r=x:=⟨_,rfl⟩
     rw[y2]at q n2 ⊢
     obtain⟨y1,y3⟩:=y1
     dsimp only at q n2
     rw[q,n2];rfl
    rw[e0]
    refine⟨by simp[one01],fun e=>?_⟩
    have:a.regs r≠K0:=fun e2=>e e2.symm
    simp[one01,this]
  have m0:=m 0 (by decide);have m1:=m 1 (by decide);have m2:=m 2 (by decide);have m3:=m 3 (by decide)
  have m4:=m 4 (by decide);have m5:=m 5 (by decide);have m6:=m 6 (by decide);have m7:=m 7 (by decide)
  unfold cntR
  refine⟨by omega,fun e=>?_⟩
  obtain⟨r,hr,hne⟩:=ftB_regs (by rw[b1,qa]) e
  have hs:=(m r hr).2 hne
  match r,hr with
  | 0,_=>omega
  | 1,_=>omega
  | 2,_=>omega
  | 3,_=>omega
  | 4,_=>omega
  | 5,_=>omega
  | 6,_=>omega
  | 7,_=>omega
theorem sum_le2:∀(l m:List Ft),l.length=m.length→(∀k,k < l.length→wF (zs_ m k)≤wF (zs_ l k))→sumF m≤sumF l∧((∃k,k < l.length∧wF (zs_ m k) < wF (zs_ l k))→sumF m < sumF l)
 | [],[],_,_=>⟨Nat.le_refl _,fun⟨k,hk,_⟩=>by simp at hk⟩
 | [],b::m,e,_=>by simp at e
 | a::l,[],e,_=>by simp at e
 | a::l,b::m,e,h=>by
  obtain⟨s1,s2⟩:=sum_le2 l m (by simpa using e) fun k hk=>by
   have:=h (k+1) (by simp;omega)
   exact this
  have h0:wF b≤wF a:=h 0 (by simp)
  unfold sumF at s1 s2 ⊢
  simp only[List.map_cons,List.sum_cons]
  refine⟨by omega,fun⟨k,hk,hlt⟩=>?_⟩
  cases k with
  | zero=>have:wF b < wF a:=hlt;omega
  | succ k=>
   have:=s2 ⟨k,by simpa using hk,hlt⟩
   omega
theorem jac_lt {p:List Ins}(hx:∀x∈p,x.ok)(hc:(zu_ p).2=0){J:List Ft}(h:JI p J){k:Nat}(hk:k < p.length)(hne:ftB (zs_ (jacF p J) k) (zs_ J k)=false):sumF (jacF p J) < sumF J:=by
 have hI:=jac_step hx hc h
 have hm:∀k,k < J.length→wF (zs_ (jacF p J) k)≤wF (zs_ J k):=fun k hk=>(wF_le (h.fine k) (hI.fine k) (h.up k (by rw[h.len]at hk;exact hk))).1
 exact(sum_le2 J (jacF p J) (by rw[jac_len,h.len]) hm).2 ⟨k,by rw[h.len];exact hk,(wF_le (h.fine k) (hI.fine k) (h.up k hk)).2 hne⟩
end Go.Proofs.Ytmljmabbopkpiaa.Vm
end

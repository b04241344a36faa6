import Derived.Test.YtjliakjbdcplcaaU1
import Derived.Test.YtjliakjbdcplcaaU30
import Derived.Test.YtjliakjbdcplcaaU31
import Derived.Test.YtjliakjbdcplcaaU32
set_option linter.unusedSimpArgs false
set_option linter.unusedVariables false
section
namespace Go.Proofs.Ytjliakjbdcplcaa.Vm
open Go.RowKit
structure MS where
 regs:Nat→Int
 cells:List Int
 drawn:Int
def MS.put (s:MS)(a:Nat)(y:Int):MS:={ s with regs:=fun j=>if j=a then y else s.regs j }
def mdE (lp ll:Int)(s:MS)(i:Ins):Bool:=
 if i.op=1∨i.op=2 then false
 else if i.op=5∨i.op=6 then decide (0≤s.regs i.b.toNat∧s.regs i.b.toNat < s.cells.length)
 else if i.op=7 then decide (1≤s.regs i.b.toNat)
 else if i.op=8 then decide (i.n < lp∧ll≤s.regs i.a.toNat)
 else if i.op < 32 then true
 else xg_ (i.op - 32) (s.regs i.c.toNat) == 0
def mdN (s:MS)(i:Ins)(k:Int):Int:=
 if i.op=9 then i.n
 else if i.op=10 then(if s.regs i.a.toNat=0 then i.n else k+1)
 else if i.op=11 then(if s.regs i.a.toNat < 0 then i.n else k+1)
 else k+1
def dvI (o:List Int)(k b:Int):Int:=IntKind.i64.wrap ((IntKind.u64.wrap (if o.length=0 then 0 else o.getD (k.tmod o.length).toNat 0)).tmod (IntKind.u64.wrap b))
def mdS (o:List Int)(s:MS)(i:Ins):MS:=
 if i.op=3 then s.put i.a.toNat i.n
 else if i.op=4 then s.put i.a.toNat (s.regs i.b.toNat)
 else if i.op=5 then s.put i.a.toNat (s.cells.getD (s.regs i.b.toNat).toNat 0)
 else if i.op=6 then { s with cells:=s.cells.set (s.regs i.b.toNat).toNat (s.regs i.a.toNat) }
 else if i.op=7 then { s.put i.a.toNat (dvI o s.drawn (s.regs i.b.toNat))with drawn:=s.drawn+1 }
 else if 32 < i.op then s.put i.a.toNat (applyV (i.op - 32) (s.regs i.b.toNat) (s.regs i.c.toNat))
 else s
def Mt (f:Ft)(m:Nat→Int):Prop:=∀r,r < 8→(f.regs r).is_=true→(f.regs r).n=m r
theorem Mt.set {f:Ft}{m:Nat→Int}(h:Mt f m){c:Bool}{a:Nat}{y:Kn}{z:Int}(hy:y.is_=true→y.n=z):Mt ⟨c,setK f.regs a y⟩ (fun j=>if j=a then z else m j):=by
 intro r hr hi
 by_cases q:r=a
 ·simp only[setK,if_pos q]at hi ⊢
  exact hy hi
 ·simp only[setK,if_neg q]at hi ⊢
  exact h r hr hi
theorem step_sound {n k:Nat}{x:Ins}(hR:RightI n k x){lp ll:Int}{o:List Int}{f:Ft}{s:MS}(hf:Mt f s.regs)(hgo:mdE lp ll s x=true):∃h,(mdN s x k,h)∈yl_ x k f∧Mt h (mdS o s x).regs:=by
 have hg:=goesB_of hR.one
 have ht:=targB_of hR.one
 have ha8:x.a.toNat < 8:=by have:=hR.a;omega
 have hb8:x.b.toNat < 8:=by have:=hR.b;omega
 have hc8:x.c.toNat < 8:=by have:=hR.c;omega
 rcases hR.cls with q|q|q|q|q|q|q|q|q|q|q|q
 ·simp[mdE,q]at hgo
 ·simp[mdE,q]at hgo
 ·rw[q]at hg ht
  refine⟨⟨f.reached,setK f.regs x.a.toNat (resK x f.regs).1⟩,?_,?_⟩
  ·exact k125_
  ·rw[show (mdS o s x).regs=fun j=>if j=x.a.toNat then x.n else s.regs j by simp[mdS,q,MS.put]]
   refine hf.set ?_
   simp[resK,q]
 ·rw[q]at hg ht
  refine⟨⟨f.reached,setK f.regs x.a.toNat (resK x f.regs).1⟩,?_,?_⟩
  ·exact k125_
  ·rw[show (mdS o s x).regs=fun j=>if j=x.a.toNat then s.regs x.b.toNat else s.regs j by simp[mdS,q,MS.put]]
   refine hf.set ?_
   simp only[resK,q]
   exact hf _ hb8
 ·rw[q]at hg ht
  refine⟨⟨f.reached,setK f.regs x.a.toNat (resK x f.regs).1⟩,?_,?_⟩
  ·exact k125_
  ·rw[show (mdS o s x).regs=fun j=>if j=x.a.toNat then s.cells.getD (s.regs x.b.toNat).toNat 0 else s.regs j by simp[mdS,q,MS.put]]
   refine hf.set ?_
   simp[resK,q,K0]
 ·rw[q]at hg ht
  refine⟨f,?_,?_⟩
  ·exact k125_
  ·exact k126_
 ·rw[q]at hg ht
  refine⟨⟨f.reached,setK f.regs x.a.toNat (resK x f.regs).1⟩,?_,?_⟩
  ·exact k125_
  ·rw[show (mdS o s x).regs=fun j=>if j=x.a.toNat then dvI o s.drawn (s.regs x.b.toNat)else s.regs j by simp[mdS,q,MS.put]]
   refine hf.set ?_
   simp[resK,q,K0]
 ·rw[q]at hg ht
  refine⟨f,?_,?_⟩
  ·exact k125_
  ·exact k126_
 ·rw[q]at hg ht
  have ht1:xj_ x=true:=ht.trans rfl
  have hT:y7_ x=x.n:=by unfold y7_;rw[if_pos ht1]
  refine⟨f,?_,?_⟩
  ·have:mdN s x k=y7_ x:=by rw[hT];simp[mdN,q]
   rw[this]
   simp only[yl_,q];exact emit_to ht
  ·exact k126_
 ·rw[q]at hg ht
  have ht1:xj_ x=true:=ht.trans rfl
  have hT:y7_ x=x.n:=by unfold y7_;rw[if_pos ht1]
  refine⟨f,?_,by rw[show (mdS o s x).regs=s.regs by simp[mdS,q]];exact hf⟩
  have hA:=hf x.a.toNat ha8
  by_cases z:s.regs x.a.toNat=0
  ·exact d38_
  ·exact d39_
 ·rw[q]at hg ht
  have ht1:xj_ x=true:=ht.trans rfl
  have hT:y7_ x=x.n:=by unfold y7_;rw[if_pos ht1]
  refine⟨f,?_,by rw[show (mdS o s x).regs=s.regs by simp[mdS,q]];exact hf⟩
  have hA:=hf x.a.toNat ha8
  by_cases z:s.regs x.a.toNat < 0
  ·exact d38_
  ·exact d39_
 ·have hw:xg_ (x.op - 32) (s.regs x.c.toNat)=0:=by
   unfold mdE at hgo
   rw[if_neg (by omega),if_neg (by omega),if_neg (by omega),if_neg (by omega),if_neg (by omega)]at hgo
   exact eq_of_beq hgo
  have hgt:goesB x=true:=by rw[hg];simp;omega
  have hres:(resK x f.regs).2=true∧((resK x f.regs).1.is_=true→(resK x f.regs).1.n=applyV (x.op - 32) (s.regs x.b.toNat) (s.regs x.c.toNat)):=by
   unfold resK
   rw[if_neg (by omega),if_neg (by omega),if_neg (by omega)]
   split
   ·rename_i e
    obtain⟨e1,e2⟩:=e
    have h0:=hf x.c.toNat hc8 (by rw[e2])
    rw[e2]at h0
    exfalso
    unfold xg_ at hw
    rw[←h0]at hw
    simp[divB]at e1
    rw[if_neg (by omega),if_pos ⟨rfl,by omega,by omega⟩]at hw
    cases hw
   ·split
    ·exact⟨rfl,fun e=>by cases e⟩
    ·rename_i e
     have ib:(f.regs x.b.toNat).is_=true:=by
      cases h:(f.regs x.b.toNat).is_
      ·exact absurd (.inl h) e
      ·rfl
     have ic:(f.regs x.c.toNat).is_=true:=by
      cases h:(f.regs x.c.toNat).is_
      ·exact absurd (.inr h) e
      ·rfl
     rw[hf _ hb8 ib,hf _ hc8 ic,hw]
     exact⟨rfl,fun _=>rfl⟩
  refine⟨⟨f.reached,setK f.regs x.a.toNat (resK x f.regs).1⟩,?_,?_⟩
  ·rw[show mdN s x k=k+1 by unfold mdN;rw[if_neg (by omega),if_neg (by omega),if_neg (by omega)]]
   unfold yl_
   rw[if_neg (by omega),if_neg (by omega),if_neg (by omega),if_pos (by omega),if_pos hres.1]
   exact emit_go rfl
  ·rw [show (mdS o s x).regs=fun j=>if j=x.a.toNat then applyV (x.op - 32) (s.regs x.b.toNat) (s.regs x.c.toNat)else s.regs j by
    unfold mdS
    rw[if_neg (by omega),if_neg (by omega),if_neg (by omega),if_neg (by omega),if_neg (by omega),if_pos (by omega)]
    rfl]
   exact hf.set hres.2
theorem not_doomed {n k:Nat}{x:Ins}(hR:RightI n k x){lc lp ll:Int}{f:Ft}{s:MS}(hf:Mt f s.regs)(hgo:mdE lp ll s x=true)(hl:(s.cells.length:Int)=lc):whyE lc lp ll x f=0:=by
 have ha8:x.a.toNat < 8:=by have:=hR.a;omega
 have hb8:x.b.toNat < 8:=by have:=hR.b;omega
 have hc8:x.c.toNat < 8:=by have:=hR.c;omega
 have hA:=hf x.a.toNat ha8
 have hB:=hf x.b.toNat hb8
 have hC:=hf x.c.toNat hc8
 unfold whyE
 split
 ·rfl
 ·unfold mdE at hgo
  split at hgo
  ·cases hgo
  ·rename_i q1
   rw[if_neg (by omega)]
   split at hgo
   ·rename_i q2
    have:=of_decide_eq_true hgo
    rw[if_pos q2,if_neg]
    rintro (e|⟨e,e2⟩)
    ·omega
    ·rw[hB e]at e2;omega
   ·rename_i q2
    rw[if_neg q2]
    split at hgo
    ·rename_i q3
     have:=of_decide_eq_true hgo
     rw[if_neg (by omega),if_neg (by omega),if_neg (fun e=>by have:=hB e.2.1;omega),if_neg (fun e=>by have:=e.1;simp[divB]at this;omega)]
    ·rename_i q3
     split at hgo
     ·rename_i q4
      have:=of_decide_eq_true hgo
      rw[if_neg (by omega),if_neg (fun e=>by have:=hA e.2.1;omega),if_neg (by omega),if_neg (fun e=>by have:=e.1;simp[divB]at this;omega)]
     ·rename_i q4
      rw[if_neg (by omega),if_neg (by omega),if_neg (by omega)]
      split
      ·rename_i e
       obtain⟨e1,e2,e3⟩:=e
       have h0:=hC e2
       simp[divB]at e1
       split at hgo
       ·omega
       ·have hw:=eq_of_beq hgo
        unfold xg_ at hw
        rw[if_neg (by omega),if_pos ⟨by omega,by omega,by omega⟩]at hw
        cases hw
      ·rfl
end Go.Proofs.Ytjliakjbdcplcaa.Vm
end

import Derived.Test.YtjliakjbdcplcaaU1
import Derived.Test.YtjliakjbdcplcaaU3
set_option linter.unusedSimpArgs false
set_option linter.unusedVariables false
set_option maxRecDepth 100000
section
namespace Go.Proofs.Ytjliakjbdcplcaa.Vm
open Go.RowKit
def slice3V (T:Tab)(φ : Fr)(m:Nat)(t:TypeId)(x:Operand)(lo:Option Operand)(hi mx:Operand):Option Eff:=
 match T.ty t,ev φ x with
 | some (.slice _ k _),some (c,.sl z i pa k' s n cp)=>match evO φ 0 lo,evO φ 0 (some hi),evO φ 0 (some mx)with
  | some (d,l),some (e,r),some (f,q)=>bif Nat.beq k k' then some (c∧d∧e∧f∧l≤r∧r≤q∧q≤n,.sl m i pa k (s+l) (r - l) (some (q - l)),[],[(m,.gone)])else none
  | _,_,_=>none
 | _,_=>none
def appendFV (T:Tab)(φ : Fr)(h:HM)(m:Nat)(t tx:TypeId)(x y:Operand):Option Eff:=
 match T.ty t,T.ty tx,ev φ x,ev φ y with
 | some (.slice e k b),some (.slice _ _ _),some (c1,.sl z i pa k' s n (some cp)),some (c2,yv)=>match T.zero e with
  | some z0=>match srcV h k z0 (.sl z i pa k' s n (some cp)),srcV h k z0 yv with
   | some (d0,n',f,rd0),some (d,j,g,rd)=>bif Nat.beq z0.size k && Nat.beq n n' then
     some (c1∧c2∧d0∧d∧cp≤n∧0 < j∧(n+j)*b≤140737488355328∧n+j≤9223372036854775807,.sl m m [] k 0 (n+j) none,rd0++rd,
      [(m,.own e (.arr (n+j) k fun q=>SV.ite (decide (q < n)) (f q) (g (q - n))) false)])else none
   | _,_=>none
  | none=>none
 | _,_,_,_=>none
section
variable {P:Program} {T:Tab} {w0 w:World} {M:Nat→Prop} {β : Env} {φ : Fr} {h h':HM} {a:Act}
theorem run_sliceBounds3 {s:Bool}{n cp l r q:Nat}{lo:Option Value}{hi mx:Value}(hlo:(lo=none∧l=0)∨∃k,lo=some (.int k (l:Int)))(hhi:∃k,hi=.int k (r:Int))(hmx:∃k,mx=.int k (q:Int))(h1:l≤r)(h2:r≤q)(h3:q≤cp) :
  (Instr.sliceBounds s n cp lo (some hi) (some mx)).run P w=.ok (l,r,q) w:=by
 obtain⟨k2,rfl⟩:=hhi
 obtain⟨k3,rfl⟩:=hmx
 rcases hlo with ⟨rfl,rfl⟩|⟨k1,rfl⟩<;>simp[Instr.sliceBounds,Instr.sliceBound,asIntOf,h1,h2,h3]
theorem evO_some (X:Ctx P T w0 M β h' w φ a){y:Operand}{c:Prop}{n:Nat}(he:evO φ 0 (some y)=some (c,n))(hc:c):∃k,a.eval y=.int k (n:Int):=by
 rcases evO_spec X he hc with ⟨e,_⟩|⟨y',k,e,h⟩
 ·cases e
 ·injection e with e;subst e;exact⟨k,h⟩
theorem slice3_ok (X:Ctx P T w0 M β h' w φ a){o:Oper}{t:TypeId}{x hi mx:Operand}{lo:Option Operand}{c:Prop}{v:SV}{rd:List Nat}{wr:List (Nat×HB)}{m:Nat}(ho:o.op=.slice t x lo (some hi) (some mx))(hb:slice3V T φ m t x lo hi mx=some (c,v,rd,wr))(hc:c)
  (hm:h' m=.dead):Does P a o w0 M β h' w v wr:=by
 obtain⟨dst,op,ty,pos,after,gd⟩:=o
 simp only at ho
 subst ho
 unfold slice3V at hb
 have birth:∀(e:Option Addr×Nat),Rep w0 M (setE β m e) (upd h' m .gone) w:=fun e=>X.rep.birth m hm e .gone trivial rfl trivial (fun a hm _=>by cases hm) (fun v a hv=>by cases hv)
 have opt:∀{d:Nat} {x:Option Operand} {n:Nat},((x=none∧n=d)∨∃y k,x=some y∧a.eval y=.int k (n:Int))→(x.map a.eval=none∧n=d)∨∃k,x.map a.eval=some (.int k (n:Int)):=by
  rintro d x n (⟨rfl,rfl⟩|⟨y,k,rfl,hy⟩)
  ·exact .inl ⟨rfl,rfl⟩
  ·exact .inr ⟨k,by simp[hy]⟩
 split at hb
 ·rename_i e k b c1 z i pa k' s n cp hK hx
  split at hb
  ·rename_i d l e' r f q hl hr hqm
   cases hq:Nat.beq k k' with
   | false=>rw[hq]at hb;cases hb
   | true=>
    rw[hq]at hb
    simp only[cond_true,Option.some.injEq,Prod.mk.injEq]at hb
    obtain⟨rfl,rfl,rfl,rfl⟩:=hb
    have hq:=Nat.eq_of_beq_eq_true hq
    subst hq
    obtain⟨hc1,hd,he',hf,hlr,hrq,hqn⟩:=hc
    obtain⟨h1,h2⟩:=X.ev hx hc1
    obtain⟨ti,dd,hti,hts,hdd,ei,rfl,hei,hes,heb,hpos⟩:=X.tab.ty t _ hK
    have hcap:q≤max n (cp.getD (β z).2):=by omega
    have hbnd:=run_sliceBounds3 (P:=P) (w:=w) (s:=true) (n:=n) (opt (evO_spec X hl hd)) (evO_some X hr he') (evO_some X hqm hf) hlr hrq hcap
    let base:=if n=0 then(β z).1 else some (((β i).1.getD ⟨0,0,none⟩).add (offp pa+s*k))
    let base':=if q=l then base else base.map (·.add (l*k))
    have him:i≠m:=by rintro rfl;have:=h1.2;rw[hm]at this;cases this
    refine⟨setE β m (base',q - l),w,_,.inl ?_,z4_ hm,birth _,?_,rfl⟩
    ·have hrun:(Instr.sliceAt t (a.eval x) (lo.map a.eval) (some (a.eval hi)) (some (a.eval mx))).run P w=.ok (.slice base' (r - l) (q - l)) w:=by
      rw[h2]
      simp[Instr.sliceAt,Instr.slice,run_underlying hdd,SV.den,hbnd,run_size hei,hes,base',base]
     have hden:(SV.sl m i pa k (s+l) (r - l) (some (q - l))).den (setE β m (base',q - l))=.slice base' (r - l) (q - l):=by
      simp only[SV.den,z2_,xe_ him,Option.getD_some]
      have hmx:max (r - l) (q - l)=q - l:=by omega
      rw[hmx]
      by_cases h0:r - l=0
      ·simp[h0]
      ·have hn0:n≠0:=by omega
       have hcl:q≠l:=by omega
       simp[h0,base',base,hcl,hn0,add_add,Nat.add_mul,Nat.add_assoc]
     rw[hden]
     simp[execOp,hrun]
    ·exact d8_
  ·cases hb
 ·cases hb
theorem appendF_ok (X:Ctx P T w0 M β h' w φ a){o:Oper}{cl:Call}{t tx:TypeId}{x y:Operand}{c:Prop}{v:SV}{rd:List Nat}{wr:List (Nat×HB)}{m:Nat}(ho:o.op=.call cl)(hcl:cl.callee=.builtin .append)(hts:cl.argTypes.toList=[t,tx])(has:cl.args.toList=[x,y])
  (hb:appendFV T φ h m t tx x y=some (c,v,rd,wr)) (hc:c) (hrd:∀i∈rd,h' i=h i) (hm:h' m=.dead):Does P a o w0 M β h' w v wr:=by
 obtain⟨dst,op,ty,pos,after,gd⟩:=o
 simp only at ho
 subst ho
 obtain⟨callee,args,tys⟩:=cl
 simp only at hcl hts has
 subst hcl
 have e1:args = #[x,y]:=by apply Array.ext';simpa using has
 have e2:tys = #[t,tx]:=by apply Array.ext';simpa using hts
 subst e1 e2
 unfold appendFV at hb
 split at hb
 ·rename_i e k b ex0 kx bx c1 z i pa k' s n cp c2 yv hK hKx hx hy
  split at hb
  ·rename_i z0 hz0
   split at hb
   ·rename_i d0 n' f rd0 d j g rd1 hsx hsrc
    obtain⟨hq,hb⟩:=bif_some' hb
    simp only[Option.some.injEq,Prod.mk.injEq]at hb
    obtain⟨rfl,rfl,rfl,rfl⟩:=hb
    simp only[Bool.and_eq_true]at hq
    have hzk:=Nat.eq_of_beq_eq_true hq.1
    have hnn:=Nat.eq_of_beq_eq_true hq.2
    subst hnn
    obtain⟨hc1,hc2,hd0,hd,hcp,hj,hby,h63⟩:=hc
    obtain⟨ti,dd,hti,hts',hdd,ei,rfl,hei,hes,heb,hpos⟩:=X.tab.ty t _ hK
    obtain⟨hp,hst,ie,hie,his,hden⟩:=X.tab.zero e z0 hz0
    have hee:ie=ei:=by rw[hie]at hei;injection hei
    subst hee
    have hzs:=hst h' X.rep.nil0
    have hzd:=hden β X.rep.nil
    obtain⟨h1,h2⟩:=X.ev hx hc1
    obtain⟨h3,h4⟩:=X.ev hy hc2
    obtain⟨hS,hgs⟩:=srcV_ok X hKx hsrc hd (fun i hi=>hrd i (List.mem_append_right _ hi)) h3 hzs hpos
    obtain⟨hS0,hfs⟩:=srcV_ok X hK hsx hd0 (fun i hi=>hrd i (List.mem_append_left _ hi)) h1 hzs hpos
    obtain⟨base,hbase⟩:∃base,(SV.sl z i pa k' s n (some cp)).den β = .slice base n n:=by
     have hmx:max n cp=n:=by omega
     simp only[SV.den,Option.getD_some,hmx]
     exact⟨_,rfl⟩
    have hold:=hS0.cellsD
    rw[hbase]at hold
    have hFs:∀q,Stable h' (SV.ite (decide (q < n)) (f q) (g (q - n))):=fun q=>Stable.ite (hfs q) (hgs _)
    obtain⟨β',w',u,hr,hβ,R,hu⟩:=appended_grow X.rep (b:=b) (n:=n) (ty:=ty) (z0:=z0) (f:=f) (F:=fun q=>SV.ite (decide (q < n)) (f q) (g (q - n))) hdd hie hzd hp hzk hes heb hold hS hm hfs hgs (by omega) hby h63 elems_add hFs
    refine⟨β',w',u,.inl ?_,?_,R,?_,hu⟩
    ·have h2':a.eval x=.slice base n n:=by rw[h2,hbase]
     simp[execOp,resolve,invoke,builtin,h2',h4,hr]
    ·rw[hβ];exact z4_ hm
    ·have:(wrs h' [(m,HB.own e (.arr (n+j) k fun q=>SV.ite (decide (q < n)) (f q) (g (q - n))) false)] m).born=true:=by show (upd h' m _ m).born=true;rw[zs_];rfl
     exact⟨this,this⟩
   ·cases hb
  ·cases hb
 ·cases hb
end
end Go.Proofs.Ytjliakjbdcplcaa.Vm
end

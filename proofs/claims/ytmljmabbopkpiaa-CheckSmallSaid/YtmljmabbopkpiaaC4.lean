import Derived.Test.YtmljmabbopkpiaaC1
import Derived.Test.YtmljmabbopkpiaaC3
set_option linter.unusedSimpArgs false
set_option linter.unusedVariables false
set_option maxRecDepth 100000
section
namespace Go.Proofs.Ytmljmabbopkpiaa.Vm
open Go.RowKit
def slice3V (T:Tab)(φ : Fr)(m:Nat)(t:TypeId)(x:Operand)(lo:Option Operand)(hi mx:Operand):Option Eff:=
 match T.ty t,ev φ x with
 | some (.slice _ k _),some (c,.sl z i pa k' s n cp)=>match evO φ 0 lo,evO φ 0 (some hi),evO φ 0 (some mx)with
  | some (d,l),some (e,r),some (f,q)=>bif Nat.beq k k' then some (c∧d∧e∧f∧l≤r∧r≤q∧q≤n,.sl m i pa k (s+l) (r - l) (some (q - l)),[],[(m,.gone)])else none
  | _,_,_=>none
 | _,_=>none
def appendFV (T:Tab)(φ : Fr)(h:HM)(m:Nat)(t tx:TypeId)(x y:Operand):Option Eff:=
 match T.ty t,T.ty tx,ev φ x,ev φ y with
 | some (.slice e k b),some (.slice _ _ _),some (c1,.sl z i pa k' s n (some cp)),some (c2,yv)=>match T.zero e with
  | some z0=>match srcV h k z0 (.sl z i pa k' s n (some cp)),srcV h k z0 yv with
   | some (d0,n',f,rd0),some (d,j,g,rd)=>bif Nat.beq z0.size k && Nat.beq n n' then
     some (c1∧c2∧d0∧d∧cp≤n∧0 < j∧(n+j)*b≤140737488355328∧n+j≤9223372036854775807,.sl m m [] k 0 (n+j) none,rd0++rd,
      [(m,.own e (.arr (n+j) k fun q=>SV.ite (decide (q < n)) (f q) (g (q - n))) false)])else none
   | _,_=>none
  | none=>none
 | _,_,_,_=>none
section
variable {P:Program} {T:Tab} {w0 w:World} {M:Nat→Prop} {β : Env} {φ : Fr} {h h':HM} {a:Act}
theorem run_sliceBounds3 {s:Bool}{n cp l r q:Nat}{lo:Option Value}{hi mx:Value}(hlo:(lo=none∧l=0)∨∃k,lo=some (.int k (l:Int)))(hhi:∃k,hi=.int k (r:Int))(hmx:∃k,mx=.int k (q:Int))(h1:l≤r)(h2:r≤q)(h3:q≤cp) :
  (Instr.sliceBounds s n cp lo (some hi) (some mx)).run P w=.ok (l,r,q) w:=by
 obtain⟨k2,rfl⟩:=hhi
 obtain⟨k3,rfl⟩:=hmx
 rcases hlo with ⟨rfl,rfl⟩|⟨k1,rfl⟩<;>simp[Instr.sliceBounds,Instr.sliceBound,asIntOf,h1,h2,h3]
theorem evO_some (X:Ctx P T w0 M β h' w φ a){y:Operand}{c:Prop}{n:Nat}(he:evO φ 0 (some y)=some (c,n))(hc:c):∃k,a.eval y=.int k (n:Int):=by
 rcases evO_spec X he hc with ⟨e,_⟩|⟨y',k,e,h⟩
 ·cases e
 ·injection e with e;subst e;exact⟨k,h⟩
theorem slice3_ok (X:Ctx P T w0 M β h' w φ a){o:Oper}{t:TypeId}{x hi mx:Operand}{lo:Option Operand}{c:Prop}{v:SV}{rd:List Nat}{wr:List (Nat×HB)}{m:Nat}(ho:o.op=.slice t x lo (some hi) (some mx))(hb:slice3V T φ m t x lo hi mx=some (c,v,rd,wr))(hc:c)
  (hm:h' m=.dead):Does P a o w0 M β h' w v wr:=by
 obtain⟨dst,op,ty,pos,after,gd⟩:=o
 simp only at ho
 subst ho
 unfold slice3V at hb
 have birth:∀(e:Option Addr×Nat),Rep w0 M (setE β m e) (upd h' m .gone) w:=fun e=>X.rep.birth m hm e .gone trivial rfl trivial (fun a hm _=>by cases hm) (fun v a hv=>by cases hv)
 have opt:∀{d:Nat} {x:Option Operand} {n:Nat},((x=none∧n=d)∨∃y k,x=some y∧a.eval y=.int k (n:Int))→(x.map a.eval=none∧n=d)∨∃k,x.map a.eval=some (.int k (n:Int)):=by
  rintro d x n (⟨rfl,rfl⟩|⟨y,k,rfl,hy⟩)
  ·exact .inl ⟨rfl,rfl⟩
  ·exact .inr ⟨k,by simp[hy]⟩
 split at hb
 ·rename_i e k b c1 z i pa k' s n cp hK hx
  split at hb
  ·rename_i d l e' r f q hl hr hqm
   cases hq:Nat.beq k k' with
   | false=>rw[hq]at hb;cases hb
   | true=>
    rw[hq]at hb
    simp only[cond_true,Option.some.injEq,Prod.mk.injEq]at hb
    obtain⟨rfl,rfl,rfl,rfl⟩:=hb
    have hq:=Nat.eq_of_beq_eq_true hq
    subst hq
    obtain⟨hc1,hd,he',hf,hlr,hrq,hqn⟩:=hc
    obtain⟨h1,h2⟩:=X.ev hx hc1
    obtain⟨ti,dd,hti,hts,hdd,ei,rfl,hei,hes,heb,hpos⟩:=X.tab.ty t _ hK
    have hcap:q≤max n (cp.getD (β z).2):=by omega
    have hbnd:=run_sliceBounds3 (P:=P) (w:=w) (s:=true) (n:=n) (opt (evO_spec X hl hd)) (evO_some X hr he') (evO_some X hqm hf) hlr hrq hcap
    let base:=if n=0 then(β z).1 else some (((β i).1.getD ⟨0,0,none⟩).add (offp pa+s*k))
    let base':=if q=l then base else base.map (·.add (l*k))
    have him:i≠m:=by rintro rfl;have:=h1.2;rw[hm]at this;cases this
    refine⟨setE β m (base',q - l),w,_,.inl ?_,yd_ hm,birth _,?_,rfl⟩
    ·have hrun:(Instr.sliceAt t (a.eval x) (lo.map a.eval) (some (a.eval hi)) (some (a.eval mx))).run P w=.ok (.slice base' (r - l) (q - l)) w:=by
      rw[h2]
      simp[Instr.sliceAt,Instr.slice,run_underlying hdd,SV.den,hbnd,x4_ hei,hes,base',base]
     have hden:(SV.sl m i pa k (s+l) (r - l) (some (q - l))).den (setE β m (base',q - l))=.slice base' (r - l) (q - l):=by
      simp only[SV.den,z4_,xg_ him,Option.getD_some]
      have hmx:max (r - l) (q - l)=q - l:=by omega
      rw[hmx]
      by_cases h0:r - l=0
      ·simp[h0]
      ·have hn0:n≠0:=by omega
       have hcl:q≠l:=by omega
       simp[h0,base',base,hcl,hn0,add_add,Nat.add_mul,Nat.add_assoc]
     rw[hden]
     simp[execOp,hrun]
    ·exact d10_
  ·cases hb
 ·cases hb
theorem appendF_ok (X:Ctx P T w0 M β h' w φ a){o:Oper}{cl:Call}{t tx:TypeId}{x y:Operand}{c:Prop}{v:SV}{rd:List Nat}{wr:List (Nat×HB)}{m:Nat}(ho:o.op=.call cl)(hcl:cl.callee=.builtin .append)(hts:cl.argTypes.toList=[t,tx])(has:cl.args.toList=[x,y])
  (hb:appendFV T φ h m t tx x y=some (c,v,rd,wr)) (hc:c) (hrd:∀i∈rd,h' i=h i) (hm:h' m=.dead):Does P a o w0 M β h' w v wr:=by
 obtain⟨dst,op,ty,pos,after,gd⟩:=o
 simp only at ho
 subst ho
 obtain⟨callee,args,tys⟩:=cl
 simp only at hcl hts has
 subst hcl
 have e1:args = #[x,y]:=by apply Array.ext';simpa using has
 have e2:tys = #[t,tx]:=by apply Array.ext';simpa using hts
 subst e1 e2
 unfold appendFV at hb
 split at hb
 ·rename_i e k b ex0 kx bx c1 z i pa k' s n cp c2 yv hK hKx hx hy
  split at hb
  ·rename_i z0 hz0
   split at hb
   ·rename_i d0 n' f rd0 d j g rd1 hsx hsrc
    obtain⟨hq,hb⟩:=bif_some' hb
    simp only[Option.some.injEq,Prod.mk.injEq]at hb
    obtain⟨rfl,rfl,rfl,rfl⟩:=hb
    simp only[Bool.and_eq_true]at hq
    have hzk:=Nat.eq_of_beq_eq_true hq.1
    have hnn:=Nat.eq_of_beq_eq_true hq.2
    subst hnn
    obtain⟨hc1,hc2,hd0,hd,hcp,hj,hby,h63⟩:=hc
    obtain⟨ti,dd,hti,hts',hdd,ei,rfl,hei,hes,heb,hpos⟩:=X.tab.ty t _ hK
    obtain⟨hp,hst,ie,hie,his,hden⟩:=X.tab.zero e z0 hz0
    have hee:ie=ei:=by rw[hie]at hei;injection hei
    subst hee
    have hzs:=hst h' X.rep.nil0
    have hzd:=hden β X.rep.nil
    obtain⟨h1,h2⟩:=X.ev hx hc1
    obtain⟨h3,h4⟩:=X.ev hy hc2
    obtain⟨hS,hgs⟩:=srcV_ok X hKx hsrc hd (fun i hi=>hrd i (List.mem_append_right _ hi)) h3 hzs hpos
    obtain⟨hS0,hfs⟩:=srcV_ok X hK hsx hd0 (fun i hi=>hrd i (List.mem_append_left _ hi)) h1 hzs hpos
    obtain⟨base,hbase⟩:∃base,(SV.sl z i pa k' s n (some cp)).den β = .slice base n n:=by
     have hmx:max n cp=n:=by omega
     simp only[SV.den,Option.getD_some,hmx]
     exact⟨_,rfl⟩
    have hold:=hS0.cellsD
    rw[hbase]at hold
    have hFs:∀q,zb_ h' (SV.ite (decide (q < n)) (f q) (g (q - n))):=fun q=>zb_.ite (hfs q) (hgs _)
    obtain⟨β',w',u,hr,hβ,R,hu⟩:=appended_grow X.rep (b:=b) (n:=n) (ty:=ty) (z0:=z0) (f:=f) (F:=fun q=>SV.ite (decide (q < n)) (f q) (g (q - n))) hdd hie hzd hp hzk hes heb hold hS hm hfs hgs (by omega) hby h63 elems_add hFs
    refine⟨β',w',u,.inl ?_,?_,R,?_,hu⟩
    ·have h2':a.eval x=.slice base n n:=by rw[h2,hbase]
     simp[execOp,resolve,invoke,builtin,h2',h4,hr]
    ·rw[hβ];exact yd_ hm
    ·have:(wrs h' [(m,HB.own e (.arr (n+j) k fun q=>SV.ite (decide (q < n)) (f q) (g (q - n))) false)] m).born=true:=by show (upd h' m _ m).born=true;rw[z1_];rfl
     exact⟨this,this⟩
   ·cases hb
  ·cases hb
 ·cases hb
end
end Go.Proofs.Ytmljmabbopkpiaa.Vm
end
section
namespace Go.Proofs.Ytmljmabbopkpiaa.Vm
open Go.RowKit
def copyPV (T:Tab)(φ : Fr)(h:HM)(t tx:TypeId)(x y:Operand):Option Eff:=
 match T.ty t,T.ty tx,ev φ x,ev φ y with
 | some (.slice e k b),some (.slice _ _ _),some (c1,.sl z i (s0::pa) k' s n cp),some (c2,.sl z2 i2 pa2 k2 s2 n2 cp2)=>match T.zero e with
  | some z0=>match srcV h k z0 (.sl z2 i2 pa2 k2 s2 (min n2 n) cp2)with
   | some (d,j,g,rd)=>match h i with
    | .own t' (.agg l) ex=>match nav (.agg l) (s0::pa)with
     | some (d2,.arr N k'' f)=>match setp (.agg l) (s0::pa) (.arr N k fun q=>SV.ite (decide (s≤q) && decide (q < s+j)) (g (q - s)) (f q))with
      | some v'=>bif Nat.beq k k'' && Nat.beq k k' then
        some (c1∧c2∧d∧d2∧s+n≤N∧j=min n2 n∧0 < n,.nat .i64 j,i::rd,[(i,.own t' v' ex)])else none
      | none=>none
     | _=>none
    | _=>none
   | none=>none
  | none=>none
 | _,_,_,_=>none
section
variable {P:Program} {T:Tab} {w0 w:World} {M:Nat→Prop} {β : Env} {φ : Fr} {h h':HM} {a:Act}
theorem copyP_ok (X:Ctx P T w0 M β h' w φ a){o:Oper}{cl:Call}{t tx:TypeId}{x y:Operand}{c:Prop}{v:SV}{rd:List Nat}{wr:List (Nat×HB)}(ho:o.op=.call cl)(hcl:cl.callee=.builtin .copy)(hts:cl.argTypes.toList=[t,tx])(has:cl.args.toList=[x,y])
  (hb:copyPV T φ h t tx x y=some (c,v,rd,wr)) (hc:c) (hrd:∀i∈rd,h' i=h i):Does P a o w0 M β h' w v wr:=by
 obtain⟨dst,op,ty,pos,after,gd⟩:=o
 simp only at ho
 subst ho
 obtain⟨callee,args,tys⟩:=cl
 simp only at hcl hts has
 subst hcl
 have e1:args = #[x,y]:=by apply Array.ext';simpa using has
 have e2:tys = #[t,tx]:=by apply Array.ext';simpa using hts
 subst e1 e2
 unfold copyPV at hb
 split at hb
 ·rename_i e k b ex0 kx bx c1 z i s0 pa k' s n cp c2 z2 i2 pa2 k2 s2 n2 cp2 hK hKx hx hy
  split at hb
  ·rename_i z0 hz0
   split at hb
   ·rename_i d j g rd0 hsrc
    split at hb
    ·rename_i t' l ex hh
     split at hb
     ·rename_i d2 N k'' f hn
      split at hb
      ·rename_i v' hsp
       obtain⟨hq,hb⟩:=bif_some' hb
       simp only[Option.some.injEq,Prod.mk.injEq]at hb
       obtain⟨rfl,rfl,rfl,rfl⟩:=hb
       simp only[Bool.and_eq_true]at hq
       have q1:=Nat.eq_of_beq_eq_true hq.1
       have q2:=Nat.eq_of_beq_eq_true hq.2
       subst q1 q2
       obtain⟨hc1,hc2,hd,hd2,hfit,hjm,hn0⟩:=hc
       obtain⟨ti,dd,hti,hts',hdd,ei,rfl,hei,hes,heb,hpos⟩:=X.tab.ty t _ hK
       obtain⟨hp,hst,ie,hie,his,hden⟩:=X.tab.zero e z0 hz0
       have hee:ie=ei:=by rw[hie]at hei;injection hei
       subst hee
       have hzs:=hst h' X.rep.nil0
       obtain⟨h1,h2⟩:=X.ev hx hc1
       obtain⟨h3,h4⟩:=X.ev hy hc2
       have hs3:zb_ h' (.sl z2 i2 pa2 k2 s2 (min n2 n) cp2):=h3
       obtain⟨hS,hgs⟩:=srcV_ok X hKx hsrc hd (fun i hi=>hrd i (.tail _ hi)) hs3 hzs hpos
       have hi':h' i=.own t' (.agg l) ex:=(hrd _ (.head _)).trans hh
       have hB:=X.rep.blk i
       have hSt:=X.rep.st i
       rw[hi']at hB hSt
       have hSu:zb_ h' (.arr N k f):=zb_.of_nav hSt hn
       have hSf:∀q,zb_ h' (f q):=by simpa only[zb_]using hSu
       have hFs:∀q,zb_ h' (SV.ite (decide (s≤q) && decide (q < s+j)) (g (q - s)) (f q)):=fun q=>zb_.ite (hgs _) (hSf q)
       have hSv:zb_ h' v':=zb_.of_setp hSt (by simp only[zb_];exact hFs) hsp
       obtain⟨A,C,hy4⟩:∃A C,a.eval y=.slice A n2 C:=by
        rw[h4]
        exact⟨_,_,rfl⟩
       have hfirst:(Builtin.firstCells k j (a.eval y)).run P w=.ok (zx_ β k j g).toArray w:=by
        by_cases hm0:min n2 n=0
        ·exact d11_
        ·have hc:=hS.cells
         have hn2:n2≠0:=by omega
         rw[h4]
         rw[den_sl_pos hm0]at hc
         rw[den_sl_pos hn2]
         exact hc
       have hmin:Nat.min n2 n=j:=hjm.symm
       have htop:=(setp_top hsp).1
       obtain⟨hvs,pre,post,hv1,hv2,hpl⟩:=setp_spec β (s0::pa) (.agg l) d2 (.arr N k f) (.arr N k fun q=>SV.ite (decide (s≤q) && decide (q < s+j)) (g (q - s)) (f q)) v' hn hd2 (by simp[SV.size]) hsp
       rcases hB with ⟨g0,pr0,cs,hba,hcs,⟨tl,htl,hex⟩,hnc⟩|⟨hb0,hexf,k0,f0,hv0⟩
       ·have hle:s*k+j*k≤N*k:=by rw[←Nat.add_mul];exact Nat.mul_le_mul_right k (by omega)
        have l1:(zx_ β k N f).length=N*k:=zv_
        have hcl0:cs.toList=pr0++(pre++(zx_ β k N f++(post++tl))):=by rw[htl,hv1,cl_arr'];simp[List.append_assoc]
        have hrow:cs.toList.take (pr0.length+(pre.length+s*k))++zx_ β k j g++cs.toList.drop (pr0.length+(pre.length+s*k)+j*k)=pr0++(v'.cl β ++ tl):=by
         rw[hv2,cl_arr',elems_splice (by omega),hcl0,List.take_length_add_append,List.take_length_add_append,Nat.add_assoc,Nat.add_assoc,List.drop_length_add_append,List.drop_length_add_append,List.take_append_of_le_length (by omega),List.drop_append_of_le_length (by omega)]
         simp[List.append_assoc]
        have hsz:cs.size=pr0.length+(pre.length+((zx_ β k N f).length+(post++tl).length)):=by rw[←Array.length_toList,hcl0,List.length_append,List.length_append,List.length_append]
        have hstore:(storeCells ⟨g0,pr0.length+(pre.length+s*k),none⟩ (zx_ β k j g)).run P w=.ok () (w.setRow g0 (pr0++(v'.cl β ++ tl)).toArray):=by
         have:=run_storeCells_at P g0 (pr0.length+(pre.length+s*k)) t' (zx_ β k j g) 0 cs w hcs (by rw[zv_,hsz,l1];omega) elems_sane
         rw[Nat.add_zero,zv_,hrow]at this
         exact this
        have R1:=X.rep.set (v':=v') (ex':=ex) (cs:=(pr0++(v'.cl β ++ tl)).toArray) hi' hba hSv
         (.inl ⟨g0,pr0,_,hba,setRow_heap w g0 cs _ t' _ hcs,⟨tl,by simp,hex⟩,fun n2 k2 f2 hv=>by
          obtain⟨f0,hf0⟩:=htop n2 k2 f2 hv
          cases hf0⟩)
        have hbase:a.eval x=.slice (some ⟨g0,pr0.length+(pre.length+s*k),none⟩) n (max n (cp.getD (β z).2)):=by
         rw[h2,den_sl_pos (by omega),hba,hpl]
         simp only[Option.getD_some,addr_addo]
        refine⟨β,_,.int .i64 (j:Nat),.inl ?_,fun _ _=>rfl,R1,trivial,rfl⟩
        rw[hy4]at hfirst
        generalize max n (cp.getD (β z).2)=C' at hbase
        have hrun:(Builtin.copy_ #[t,tx] ty #[.slice (some ⟨g0,pr0.length+(pre.length+s*k),none⟩) n C',.slice A n2 C]).run P w=.ok (goInt j) (w.setRow g0 (pr0++(v'.cl β ++ tl)).toArray):=by
         have z1:(#[t,tx]:Array TypeId)[0]? = some t:=rfl
         have z2:(#[Value.slice (some ⟨g0,pr0.length+(pre.length+s*k),none⟩) n C',.slice A n2 C]:Array Value)[0]? = some (.slice (some ⟨g0,pr0.length+(pre.length+s*k),none⟩) n C'):=rfl
         have z3:(#[Value.slice (some ⟨g0,pr0.length+(pre.length+s*k),none⟩) n C',.slice A n2 C]:Array Value)[1]? = some (.slice A n2 C):=rfl
         unfold Builtin.copy_
         simp only[z1,z2,z3,Builtin.lenOf,Sem.run_bind,Sem.run_pure,run_underlying hdd,Result.andThen_ok,hmin,x4_ hie,hes,hfirst,List.toList_toArray,hstore]
        simp only[execOp,resolve,invoke,Sem.run_bind,Sem.run_pure,Result.andThen_ok,List.map_toArray,List.map_cons,List.map_nil,hbase,hy4,builtin,hrun,goInt]
       ·cases hv0
      ·cases hb
     ·cases hb
    ·cases hb
   ·cases hb
  ·cases hb
 ·cases hb
end
end Go.Proofs.Ytmljmabbopkpiaa.Vm
namespace Go.Proofs.Ytmljmabbopkpiaa.Vm
open Go.RowKit
def isC1:Option Operand→Bool
 | some (.const (.int _ n))=>ieq n 1
 | _=>false
theorem isC1_spec {lo:Option Operand}(h:isC1 lo=true):∃k,lo=some (.const (.int k 1)):=by
 unfold isC1 at h
 split at h
 ·rename_i k n
  have:n=1:=by simpa [ieq]using h
  subst this
  exact⟨k,rfl⟩
 ·cases h
def sliceRV (T:Tab)(φ : Fr)(h:HM)(m:Nat)(t:TypeId)(x:Operand):Option Eff:=
 match T.ty t,ev φ x with
 | some (.slice e k _),some (c,.sl z i pa k' s n none)=>match i,pa with
  | i+1,[]=>match h (i+1)with
   | .own e' (.arr n' k'' f) ex=>bif Nat.beq z (i+1) && Nat.beq s 0 && Nat.beq k k' && Nat.beq k k'' then
     some (c∧1≤n∧n≤n',.sl m m [] k 0 (n - 1) none,[i+1],[(i+1,.gone),(m,.own e' (.arr (n' - 1) k fun q=>f (q+1)) false)])else none
   | _=>none
  | _,_=>none
 | _,_=>none
section
variable {P:Program} {T:Tab} {w0 w:World} {M:Nat→Prop} {β : Env} {φ : Fr} {h h':HM} {a:Act}
theorem sliceR_ok (X:Ctx P T w0 M β h' w φ a){o:Oper}{t:TypeId}{x:Operand}{lo:Option Operand}{c:Prop}{v:SV}{rd:List Nat}{wr:List (Nat×HB)}{m:Nat}(ho:o.op=.slice t x lo none none)(hlo:isC1 lo=true)(hb:sliceRV T φ h m t x=some (c,v,rd,wr))(hc:c)
  (hrd:∀i∈rd,h' i=h i) (hm:h' m=.dead):Does P a o w0 M β h' w v wr:=by
 obtain⟨dst,op,ty,pos,after,gd⟩:=o
 simp only at ho
 subst ho
 obtain⟨ik,rfl⟩:=isC1_spec hlo
 unfold sliceRV at hb
 split at hb
 ·rename_i e k b c1 z i0 pa k' s n hK hx
  split at hb
  ·rename_i i
   split at hb
   ·rename_i e' n' k'' f ex hh
    obtain⟨hq,hb⟩:=bif_some' hb
    simp only[Option.some.injEq,Prod.mk.injEq]at hb
    obtain⟨rfl,rfl,rfl,rfl⟩:=hb
    simp only[Bool.and_eq_true]at hq
    obtain⟨⟨⟨q1,q2⟩,q3⟩,q4⟩:=hq
    have q1:=Nat.eq_of_beq_eq_true q1
    have q2:=Nat.eq_of_beq_eq_true q2
    have q3:=Nat.eq_of_beq_eq_true q3
    have q4:=Nat.eq_of_beq_eq_true q4
    subst q1 q2 q3 q4
    obtain⟨hc1,hn1,hnn⟩:=hc
    obtain⟨h1,h2⟩:=X.ev hx hc1
    obtain⟨ti,dd,hti,hts,hdd,ei,rfl,hei,hes,heb,hpos⟩:=X.tab.ty t _ hK
    have hi':h' (i+1)=.own e' (.arr n' k f) ex:=(hrd _ (.head _)).trans hh
    have hB:=X.rep.blk (i+1)
    have hSt:=X.rep.st (i+1)
    rw[hi']at hB hSt
    have hSf:∀q,zb_ h' (f q):=by simpa only[HB.stable,zb_]using hSt
    have him:i+1≠m:=by rintro rfl;rw[hm]at hi';cases hi'
    have hmi:(h' (i+1)).mine=true:=by rw[hi'];rfl
    rcases hB with ⟨g0,pr0,cs,hba,hcs,⟨tl,htl,_⟩,hnc⟩|⟨hb0,_,k0,f0,hv0⟩
    ·obtain⟨hnc1,hnc2⟩:=hnc n' k f rfl
     obtain⟨cap,hcap⟩:∃cap,(β (i+1)).2=cap:=⟨_,rfl⟩
     rw[hcap]at hnc1 hnc2
     have hbase:a.eval x=.slice (some ⟨g0,pr0.length,none⟩) n cap:=by
      rw[h2]
      have:(⟨g0,pr0.length,none⟩:Addr).add 0=⟨g0,pr0.length,none⟩:=by simp[Addr.add]
      have hmx:max n cap=cap:=by omega
      have hn0:n≠0:=by omega
      simp[SV.den,hba,offp,this,hmx,hcap,hn0]
     have hbnd:=run_sliceBounds (P:=P) (w:=w) (s:=true) (n:=n) (cp:=cap) (l:=1) (r:=n) (lo:=some (.int ik 1)) (hi:=none) (.inr ⟨ik,rfl⟩) (.inl ⟨rfl,rfl⟩) hn1 (by omega)
     obtain⟨pr1,hp1,⟨tl1,ht1⟩,hs1⟩:∃pr1:List Value,(if cap=1 then(some ⟨g0,pr0.length,none⟩:Option Addr)else(some ⟨g0,pr0.length,none⟩:Option Addr).map (·.add (1*k)))=some ⟨g0,pr1.length,none⟩∧(∃tl1,cs.toList=pr1++(zx_ β k (n' - 1) (fun q=>f (q+1))++tl1))∧pr1.length+(cap - 1)*k≤cs.size:=by
      by_cases hc1:cap=1
      ·have hn':n' - 1=0:=by omega
       refine⟨pr0,by rw[if_pos hc1],⟨(SV.arr n' k f).cl β ++ tl,?_⟩,?_⟩
       ·rw[hn',htl];rfl
       ·rw[hc1,Nat.sub_self,Nat.zero_mul];rw[hc1]at hnc2;omega
      ·have e1:n'=1+(n' - 1):=by omega
       have e2:zx_ β k n' f=zx_ β k 1 f++zx_ β k (n' - 1) (fun q=>f (q+1)):=by
        conv=>lhs;rw[e1]
        rw[elems_split]
        simp only[Nat.add_comm 1]
       refine⟨pr0++zx_ β k 1 f,?_,⟨tl,?_⟩,?_⟩
       ·rw[if_neg hc1,Option.map_some,addr_addo,List.length_append,zv_]
       ·rw[htl,cl_arr',e2];simp only[List.append_assoc]
       ·rw[List.length_append,zv_]
        have:cap*k=1*k+(cap - 1)*k:=by rw[←Nat.add_mul];congr 1;omega
        omega
     have hdead:upd h' (i+1) .gone m=.dead:=by rw[yp_ (Ne.symm him)];exact hm
     have hSv:zb_ h' (.arr (n' - 1) k fun q=>f (q+1)):=by simp only[zb_];exact fun q=>hSf (q+1)
     have born:∀b:HB,b.born=true→∀j,(h' j).born=true→(upd (upd h' (i+1) .gone) m b j).born=true:=fun b hb j hj=>by
      unfold upd;split
      ·exact hb
      ·split
       ·rfl
       ·exact hj
     have R1:=(X.rep.forget (i+1) (by rw[hi'];rfl)).birth m hdead (some ⟨g0,pr1.length,none⟩,cap - 1) (.own e' (.arr (n' - 1) k fun q=>f (q+1)) false)
      (zb_.more (born _ rfl) hSv) rfl
      (.inl ⟨g0,pr1,cs,by rw[z4_],hcs,⟨tl1,by rw[←hSv.cl (yd_ hm),cl_arr'];exact ht1,fun h=>by cases h⟩,fun n2 k2 f2 hv=>by
       injection hv with h1 h2 h3
       subst h1 h2
       rw[z4_]
       exact⟨by show n' - 1≤cap - 1;omega,hs1⟩⟩)
      (fun a' _ ha=>by
       injection ha with ha
       subst ha
       refine⟨X.rep.own (i+1) ⟨g0,pr0.length,none⟩ hmi hba,X.rep.lt (i+1) ⟨g0,pr0.length,none⟩ hmi hba,fun j a'' hj ha''=>?_⟩
       by_cases hji:j=i+1
       ·subst hji;rw[z1_]at hj;cases hj
       ·rw[yp_ hji]at hj;exact X.rep.dist j (i+1) a'' ⟨g0,pr0.length,none⟩ hji hj hmi ha'' hba)
      (fun v a hv=>by cases hv)
     refine⟨setE β m (some ⟨g0,pr1.length,none⟩,cap - 1),w,_,.inl ?_,yd_ hm,R1,?_,rfl⟩
     ·have hrun:(Instr.sliceAt t (a.eval x) (some (.int ik 1)) none none).run P w=.ok (.slice (some ⟨g0,pr1.length,none⟩) (n - 1) (cap - 1)) w:=by
       rw[hbase,←hp1]
       simp[Instr.sliceAt,Instr.slice,run_underlying hdd,hbnd,x4_ hei,hes]
      rw[sl_new (show n - 1≤cap - 1 by omega)]
      have e0:a.eval (.const (.int ik 1))=.int ik 1:=rfl
      simp[execOp,e0,hrun]
     ·have e1:(wrs h' [(i+1,HB.gone),(m,HB.own e' (.arr (n' - 1) k fun q=>f (q+1)) false)] m).born=true:=by show (upd (upd h' (i+1) .gone) m _ m).born=true;rw[z1_];rfl
      exact⟨e1,e1⟩
    ·injection hv0 with e1 e2 e3
     omega
   ·cases hb
  ·cases hb
 ·cases hb
end
end Go.Proofs.Ytmljmabbopkpiaa.Vm
end

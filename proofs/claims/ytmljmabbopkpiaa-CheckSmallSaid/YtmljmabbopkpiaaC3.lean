import Derived.Test.YtmljmabbopkpiaaC1
import Derived.Test.YtmljmabbopkpiaaC2
import Derived.Laws.MakeOwn
import Derived.Laws.AppendOwn
import Derived.Laws.Tables
import Derived.Deep.AppendSrc
import Derived.Laws.Strings
set_option linter.unusedSimpArgs false
set_option linter.unusedVariables false
set_option maxRecDepth 100000
section
namespace Go.Proofs.Ytmljmabbopkpiaa.Vm
open Go.RowKit
def asN:SV→Option (Prop×IntKind×Nat)
 | .nat k n=>some (True,k,n)
 | .int k n=>some (0≤n,k,n.toNat)
 | _=>none
def fitsT (u:SV)(K:TK):Bool:=Nat.beq u.size K.size && (u.isAgg == K.agg) && u.plain && Nat.blt 0 u.size
def evL (φ : Fr):List Operand→Option (Prop×List SV)
 | []=>some (True,[])
 | x::l=>match ev φ x,evL φ l with
  | some (c,v),some (d,vs)=>some (c∧d,v::vs)
  | _,_=>none
def loadV (T:Tab)(h:HM)(t:TypeId)(c:Prop)(i:Nat)(pa:List Stp):Option (Prop×SV×List Nat):=
 match (h i).val,T.ty t with
 | some v,some K=>match nav v pa with
  | some (d,u)=>bif fitsT u K then some (c∧d,u,[i])else none
  | none=>none
 | _,_=>none
def maxV (mx:Bool):SV→SV→Option SV
 | .nat k a,.nat k' b=>bif keq k k' then some (.nat k (bif mx then max a b else min a b))else none
 | .int k a,.nat k' b=>bif keq k k' then some (.int k (bif mx then max a b else min a b))else none
 | .nat k a,.int k' b=>bif keq k k' then some (.int k (bif mx then max a b else min a b))else none
 | .int k a,.int k' b=>bif keq k k' then some (.int k (bif mx then max a b else min a b))else none
 | _,_=>none
def callV (T:Tab)(φ : Fr)(b:Builtin)(ts:List TypeId)(xs:List Operand):Option (Prop×SV×List Nat):=
 match b,xs with
 | .len,[x]=>match ts,ev φ x with
  | [t],some (c,.sl _ _ _ _ _ n _)=>match T.ty t with
   | some (.slice _ _ _)=>some (c,.nat .i64 n,[])
   | _=>none
  | [t],some (c,.str s)=>match T.ty t with
   | some .str=>some (c,.nat .i64 s.size,[])
   | _=>none
  | _,_=>none
 | .cap,[x]=>match ts,ev φ x with
  | [t],some (c,.sl _ _ _ _ _ m (some n))=>match T.ty t with
   | some (.slice _ _ _)=>some (c,.nat .i64 (max m n),[])
   | _=>none
  | _,_=>none
 | .max,[x,y]=>match ev φ x,ev φ y with
  | some (c,u),some (d,v)=>match maxV true u v with
   | some r=>some (c∧d,r,[])
   | none=>none
  | _,_=>none
 | .min,[x,y]=>match ev φ x,ev φ y with
  | some (c,u),some (d,v)=>match maxV false u v with
   | some r=>some (c∧d,r,[])
   | none=>none
  | _,_=>none
 | _,_=>none
def narrow (a b:IntKind):Bool:=match a,b with
 | .i64,.u32 | .i64,.i32 | .i64,.u16 | .i64,.i16 | .i64,.u8 | .i64,.i8=>true
 | .u64,.u32 | .u64,.i32 | .u64,.u16 | .u64,.i16 | .u64,.u8 | .u64,.i8=>true
 | _,_=>false
def bat (s:ByteArray)(m:Nat):Int:=match s[m]? with
 | some b=>(b.toNat:Int)
 | none=>0
def opV (T:Tab)(φ : Fr)(h:HM):Op→Option (Prop×SV×List Nat)
 | .move x=>match ev φ x with
  | some (c,v)=>some (c,v,[])
  | none=>none
 | .assign x=>match ev φ x with
  | some (c,v)=>some (c,v,[])
  | none=>none
 | .pick b x y=>match ev φ b,ev φ x,ev φ y with
  | some (c0,.bool t),some (c1,v1),some (c2,v2)=>some (c0∧(t=true→c1)∧(t=false→c2),SV.ite t v1 v2,[])
  | _,_,_=>none
 | .load t x=>match ev φ x with
  | some (c,.ptr i pa)=>loadV T h t c i pa
  | _=>none
 | .nilCheck x=>match ev φ x with
  | some (c,.ptr i pa)=>some (c,.ptr i pa,[])
  | some (c,.fn f l)=>some (c,.fn f l,[])
  | _=>none
 | .binOp op t x y _=>match ev φ x,ev φ y with
  | some (c,u),some (d,v)=>match bin (T.ty t) op u v with
   | some (e,r)=>some (c∧d∧e,r,[])
   | none=>match T.eq t with
    | some et=>match binE op (eqB et u v)with
     | some (e,r)=>some (c∧d∧yc_ et u∧yc_ et v∧e,r,[])
     | none=>none
    | none=>none
  | _,_=>none
 | .unOp .not _ x=>match ev φ x with
  | some (c,.bool b)=>some (c,.bool (!b),[])
  | _=>none
 | .convert s t x=>match T.ty s,T.ty t,ev φ x with
  | some _,some (.int k),some (c,.nat k' n)=>bif narrow k' k then some (c,.int k (k.wrap n),[])else some (c∧inN k n,.nat k n,[])
  | some _,some (.int k),some (c,.int k' n)=>bif narrow k' k then some (c,.int k (k.wrap n),[])else some (c∧inR k n,.int k n,[])
  | some .str,some .str,some (c,.str s)=>some (c,.str s,[])
  | _,_,_=>none
 | .makeFunc (.func f) first caps=>match first.toList,evL φ caps.toList with
  | [],some (c,vs)=>some (c,.fn f vs,[])
  | _,_=>none
 | .fieldAddr t x j=>match T.ty t,ev φ x with
  | some (.struct _ os),some (c,.ptr i pa)=>match os[j]? with
   | some (o,_,_)=>some (c,.ptr i (pa++[.f j o]),[])
   | none=>none
  | _,_=>none
 | .field t x j=>match T.ty t,ev φ x with
  | some (.struct _ os),some (c,v)=>match os[j]? with
   | some (o,s,g)=>match nav v [.f j o]with
    | some (d,u)=>bif Nat.beq u.size s && (u.isAgg == g) && u.plain && v.isAgg then some (c∧d,u,[])else none
    | none=>none
   | none=>none
  | _,_=>none
 | .indexAddr t x y=>match T.ty t,ev φ x,ev φ y with
  | some (.slice _ k _),some (c,.sl _ i pa k' s n _),some (d,yv)=>match asN yv with
   | some (e,_,m)=>bif Nat.beq k k' then some (c∧d∧e∧m < n,.ptr i (pa++[.i (s+m) k]),[])else none
   | none=>none
  | some (.array _ n k _),some (c,.ptr i pa),some (d,yv)=>match asN yv with
   | some (e,_,m)=>some (c∧d∧e∧m < n,.ptr i (pa++[.i m k]),[])
   | none=>none
  | _,_,_=>none
 | .index t x y=>match T.ty t,ev φ x,ev φ y with
  | some (.array _ n k g),some (c,v),some (d,yv)=>match asN yv with
   | some (e,_,m)=>match nav v [.i m k]with
    | some (f,u)=>bif Nat.beq u.size k && (u.isAgg == g) && u.plain && v.isAgg then some (c∧d∧e∧m < n∧f,u,[])else none
    | none=>none
   | none=>none
  | some .str,some (c,.str s),some (d,yv)=>match asN yv with
   | some (e,_,m)=>some (c∧d∧e∧m < s.size,.int .u8 (bat s m),[])
   | none=>none
  | _,_,_=>none
 | .extract x j=>match ev φ x with
  | some (c,.tup l)=>match l[j]? with
   | some v=>some (c,v,[])
   | none=>none
  | _=>none
 | .call cl=>match cl.callee with
  | .builtin b=>callV T φ b cl.argTypes.toList cl.args.toList
  | _=>none
 | _=>none
section
variable {P:Program} {T:Tab} {w0 w:World} {M:Nat→Prop} {β : Env} {φ : Fr} {h h':HM} {a:Act}
theorem asN_den {v:SV}{c:Prop}{k:IntKind}{n:Nat}(h:asN v=some (c,k,n))(hc:c):v.den β = .int k (n:Int):=by
 cases v<;>simp only[asN]at h<;>try (cases h;done)
 ·simp only[Option.some.injEq,Prod.mk.injEq]at h
  obtain⟨rfl,rfl,rfl⟩:=h
  simp only[SV.den]
  congr 1
  omega
 ·simp only[Option.some.injEq,Prod.mk.injEq]at h
  obtain⟨_,rfl,rfl⟩:=h
  rfl
theorem evL_spec (hF:Fits β h φ a)(hn:β 0=(none,0))(h0:h 0=.gone):∀{l:List Operand} {c:Prop} {vs:List SV},evL φ l=some (c,vs)→c→zh_ h vs∧l.map a.eval=denL β vs
 | [],c,vs,he,hc=>by
  simp only[evL,Option.some.injEq,Prod.mk.injEq]at he
  obtain⟨_,rfl⟩:=he
  exact⟨trivial,rfl⟩
 | x::l,c,vs,he,hc=>by
  simp only[evL]at he
  split at he
  ·rename_i c1 v d us hx hl
   simp only[Option.some.injEq,Prod.mk.injEq]at he
   obtain⟨rfl,rfl⟩:=he
   obtain⟨h1,h2⟩:=ev_spec hF hn h0 hx hc.1
   obtain⟨h3,h4⟩:=evL_spec hF hn h0 hl hc.2
   exact⟨⟨h1,h3⟩,by rw[List.map_cons,h2,h4];rfl⟩
  ·cases he
theorem denL_get {l:List SV}{j:Nat}{v:SV}(hl:l[j]? = some v):(denL β l)[j]? = some (v.den β):=by
 induction l generalizing j with
 | nil=>cases hl
 | cons x l ih=>
  cases j with
  | zero=>simp only[List.getElem?_cons_zero,Option.some.injEq]at hl;subst hl;rfl
  | succ j=>simp only[List.getElem?_cons_succ]at hl;simp only[denL,List.getElem?_cons_succ];exact ih hl
theorem fitsT_spec {u:SV}{K:TK}(h:fitsT u K=true):u.size=K.size∧u.isAgg=K.agg∧u.plain=true∧0 < u.size:=by
 simp only[fitsT,Bool.and_eq_true,beq_iff_eq]at h
 obtain⟨⟨⟨h1,h2⟩,h3⟩,h4⟩:=h
 exact⟨Nat.eq_of_beq_eq_true h1,h2,h3,Nat.le_of_ble_eq_true h4⟩
theorem run_loadVar_of {t:TypeId}{K:TK}{u:SV}{b:Addr}(hT:TabOk P T)(hK:T.ty t=some K)(hf:fitsT u K=true)(hcell:∀j x,(u.cl β)[j]? = some x→w.cell? (b.add j)=some x) :
  (loadVar t b).run P w=.ok (u.den β) w:=by
 obtain⟨h1,h2,h3,h4⟩:=fitsT_spec hf
 obtain⟨i,d,hi,hs,hd,hfit⟩:=hT.ty t K hK
 have hag:=run_isAgg hd w
 rw[hfit.agg]at hag
 unfold loadVar
 rw[Sem.run_bind,hag,Result.andThen_ok]
 cases ha:K.agg with
 | true=>
  have hl:=run_loadCells_list (P:=P) w b (u.cl β) hcell
  rw[zy_,h1]at hl
  simp only[if_true,Sem.run_bind,x4_ hi,Result.andThen_ok,hs,hl,Sem.run_pure]
  rw[den_agg (h2.trans ha)]
 | false=>
  have hc:=den_cell (β:=β) (h2.trans ha) h3
  have:=hcell 0 (u.den β) (by rw[hc];rfl)
  have e:b.add 0=b:=by unfold Addr.add;simp
  rw[e]at this
  simp[this]
theorem offp_snoc (pa:List Stp)(s:Stp):offp (pa++[s])=offp pa+s.off:=by rw[offp_append];simp[offp]
structure Ctx (P:Program) (T:Tab) (w0:World) (M:Nat→Prop) (β : Env) (h:HM) (w:World) (φ : Fr) (a:Act):Prop where
 tab:TabOk P T
 rep:Rep w0 M β h w
 fits:Fits β h φ a
theorem Ctx.ev (X:Ctx P T w0 M β h w φ a){x:Operand}{c:Prop}{v:SV}(he:Vm.ev φ x=some (c,v))(hc:c):zb_ h v∧a.eval x=v.den β:=
 ev_spec X.fits X.rep.nil X.rep.nil0 he hc
theorem run_fieldAt {t:TypeId}{n j o s:Nat}{os:List (Nat×Nat×Bool)}{g:Bool}{b:Addr}(hT:TabOk P T)(hK:T.ty t=some (.struct n os))(hj:os[j]? = some (o,s,g)) :
  (Instr.fieldAt t (.pointer (some b)) j).run P w=.ok (.pointer (some (b.add o))) w:=by
 obtain⟨i,d,hi,hs,hd,fs,rfl,hl,hf⟩:=hT.ty t _ hK
 obtain⟨f,hfj,rfl,⟨fi,fd,hfi,hfs,hfd,hfa⟩,hpos⟩:=hf j o s g hj
 have h0:¬fi.size=0:=by omega
 simp[Instr.fieldAt,run_underlying hd,hfj,Instr.sureAddr,fieldPlace,x4_ hfi,h0]
theorem den_sl_pos {z i k s n:Nat}{pa:List Stp}{c:Option Nat}(hn:n≠0):(SV.sl z i pa k s n c).den β = .slice (some (((β i).1.getD ⟨0,0,none⟩).add (offp pa+s*k))) n (max n (c.getD (β z).2)):=by
 simp[SV.den,hn]
theorem run_indexAt_slice {t:TypeId}{e k b:Nat}{z i s n m k':Nat}{pa:List Stp}{c:Option Nat}{kk:IntKind}(hT:TabOk P T)(hK:T.ty t=some (.slice e k b))(hm:m < n) :
  (Instr.indexAt t ((SV.sl z i pa k s n c).den β) (.int kk (m:Int))).run P w=.ok ((SV.ptr i (pa++[.i (s+m) k])).den β) w:=by
 obtain⟨ti,d,hi,hs,hd,ei,rfl,hei,hes,heb,hpos⟩:=hT.ty t _ hK
 rw[den_sl_pos (by omega)]
 have h1:(0:Int)≤m∧(m:Int) < n:=by omega
 simp[Instr.indexAt,asIntOf,run_underlying hd,x4_ hei,hes,hm,SV.den,add_add,offp_snoc,Stp.off,Nat.add_mul,Nat.add_assoc]
theorem run_indexAt_array {t:TypeId}{e n k:Nat}{g:Bool}{m i:Nat}{pa:List Stp}{kk:IntKind}(hT:TabOk P T)(hK:T.ty t=some (.array e n k g))(hm:m < n) :
  (Instr.indexAt t ((SV.ptr i pa).den β) (.int kk (m:Int))).run P w=.ok ((SV.ptr i (pa++[.i m k])).den β) w:=by
 obtain⟨ti,d,hi,hs,hd,rfl,⟨ei,ed,hei,hes,hed,hea⟩,hpos⟩:=hT.ty t _ hK
 simp[Instr.indexAt,asIntOf,run_underlying hd,x4_ hei,hes,hm,SV.den,add_add,offp_snoc,Stp.off,Instr.sureAddr]
theorem part_of_nav {t:TypeId}{s:Nat}{g:Bool}{v u:SV}{pa:List Stp}{c:Prop}(hS:HasSize P t s g)(hv:v.isAgg=true)(hn:nav v pa=some (c,u))(hc:c)(hu:u.size=s)(hg:u.isAgg=g)(hp:u.plain=true) :
  (part t (v.cl β).toArray (offp pa)).run P w=.ok (u.den β) w:=by
 obtain⟨pre,post,he,hl⟩:=nav_spec β pa v c u hn hc
 obtain⟨i,d,hi,hs,hd,ha⟩:=hS
 have hag:=run_isAgg hd w
 rw[ha]at hag
 unfold part
 rw[Sem.run_bind,hag,Result.andThen_ok]
 cases g with
 | true=>
  simp only[if_true,Sem.run_bind,x4_ hi,Result.andThen_ok,Sem.run_pure]
  rw[den_agg hg]
  congr 2
  rw[he,←hl,hs,←hu,←zy_ (β:=β) u]
  apply Array.ext'
  simp[List.append_assoc]
 | false=>
  have hcl:=den_cell (β:=β) hg hp
  have:(v.cl β).toArray[offp pa]? = some (u.den β):=by
   rw[List.getElem?_toArray,he,←hl,List.append_assoc,List.getElem?_append_right (by omega),hcl];simp
  simp[this]
def env00:Env:=fun _=>(none,0)
theorem shaped_int {k:IntKind}{v:SV}(h:kndOf v=some k):v.den β = .int k (numOf v)∧v.isAgg=false∧v.plain=true∧v.size=1:=by
 cases v<;>simp only[kndOf]at h<;>first |(cases h;done) |(injection h with h;subst h;exact⟨rfl,rfl,rfl,rfl⟩)
mutual
theorem shaped_size:∀(e:ET) {v:SV},yc_ e v→v.size=e.size∧v.isAgg=e.agg∧v.plain=true
 | .int k,v,h=>by
  obtain⟨_,h1,h2,h3⟩:=shaped_int (β:=env00) h
  exact⟨h3,h1,h2⟩
 | .bool,v,h=>by cases v<;>first |(simp[yc_]at h;done)|exact⟨rfl,rfl,rfl⟩
 | .str,v,h=>by cases v<;>first |(simp[yc_]at h;done)|exact⟨rfl,rfl,rfl⟩
 | .struct fs,v,h=>by
  cases v<;>simp only[yc_]at h
  exact⟨shapedL_size fs h,rfl,rfl⟩
 | .arr n k e,v,h=>by
  cases v<;>simp only[yc_]at h
  obtain⟨rfl,rfl,_⟩:=h
  exact⟨rfl,rfl,rfl⟩
theorem shapedL_size:∀(es:List ET) {l:List SV},yf_ es l→sizeL l=sizeET es
 | [],l,h=>by cases l<;>simp only[yf_]at h;rfl
 | e::es,l,h=>by
  cases l<;>simp only[yf_]at h
  rw[sizeL,sizeET,(shaped_size e h.1).1,shapedL_size es h.2]
end
theorem etOk_agg {e:ET}{t:TypeId}(h:etOk P e t=true):∃d,P.underlying t=some d∧isAggD d=e.agg:=by
 cases e<;>simp only[etOk]at h<;>split at h<;>first |(cases h;done)|skip
 all_goals rename_i hd;exact⟨_,hd,rfl⟩
theorem sizeIs_spec {t:TypeId}{n:Nat}(h:sizeIs P t n=true):∃i,P.info? t=some i∧i.size=n:=by
 unfold sizeIs at h
 split at h
 ·rename_i i d hi hd
  exact⟨i,hi,Nat.eq_of_beq_eq_true h⟩
 ·cases h
theorem part_shaped {t:TypeId}{e:ET}{v u:SV}{pa:List Stp}{c:Prop}(ho:etOk P e t=true)(hs:sizeIs P t e.size=true)(hv:v.isAgg=true)(hn:nav v pa=some (c,u))(hc:c)(hu:yc_ e u) :
  (part t (v.cl β).toArray (offp pa)).run P w=.ok (u.den β) w:=by
 obtain⟨i,hi,h1⟩:=sizeIs_spec hs
 obtain⟨d,hd,h2⟩:=etOk_agg ho
 obtain⟨k1,k2,k3⟩:=shaped_size e hu
 exact part_of_nav ⟨i,d,hi,h1,hd,rfl⟩ hv hn hc k1 (by rw[k2,h2]) k3
theorem take_self {pre rest:List SV}:(pre++rest).take pre.length=pre:=by simp
mutual
theorem eq_ok:∀(e:ET) (t:TypeId) (x y:SV) (d:Nat),etOk P e t=true→yc_ e x→yc_ e y→e.depth≤d→(Op.equalIn d t (x.den β) (y.den β)).run P w=.ok (eqB e x y) w
 | .int k,t,x,y,d,ho,hx,hy,hd=>by
  obtain⟨d,rfl⟩:∃d',d=d'+1:=⟨d - 1,by simp only[ET.depth]at hd;omega⟩
  simp only[etOk]at ho
  split at ho
  ·rename_i k' hu
   rw[(shaped_int hx).1,(shaped_int hy).1,run_equalIn_int w d t k k' _ _ hu]
   simp only[eqB,ieq]
   have e:(numOf x == numOf y)=decide (numOf x=numOf y):=by by_cases h:numOf x=numOf y<;>simp[h]
   rw[e]
  ·cases ho
 | .bool,t,x,y,d,ho,hx,hy,hd=>by
  obtain⟨d,rfl⟩:∃d',d=d'+1:=⟨d - 1,by simp only[ET.depth]at hd;omega⟩
  simp only[etOk]at ho
  split at ho
  ·rename_i hu
   cases x<;>simp only[yc_]at hx
   cases y<;>simp only[yc_]at hy
   exact run_equalIn_bool' w d t _ _ hu
  ·cases ho
 | .str,t,x,y,d,ho,hx,hy,hd=>by
  obtain⟨d,rfl⟩:∃d',d=d'+1:=⟨d - 1,by simp only[ET.depth]at hd;omega⟩
  simp only[etOk]at ho
  split at ho
  ·rename_i hu
   cases x<;>simp only[yc_]at hx
   cases y<;>simp only[yc_]at hy
   exact run_equalIn_string w d t _ _ hu
  ·cases ho
 | .struct fs,t,x,y,d,ho,hx,hy,hd=>by
  obtain⟨d,rfl⟩:∃d',d=d'+1:=⟨d - 1,by simp only[ET.depth]at hd;omega⟩
  simp only[etOk]at ho
  split at ho
  ·rename_i F hu
   rw[Bool.and_eq_true,Bool.not_eq_true']at ho
   cases x<;>simp only[yc_]at hx
   cases y<;>simp only[yc_]at hy
   rename_i l m
   rw[den_agg (v:=.agg l) rfl,den_agg (v:=.agg m) rfl,run_equalIn_struct w d t _ _ (by simp[Program.fieldsOf,hu]) ho.1]
   have hF:P.fieldsOf t=F:=by simp[Program.fieldsOf,hu]
   rw[hF]
   simp only[eqB]
   exact eqFs_ok fs F.toList 0 [] l [] m d ho.2 rfl rfl hx hy (by simp only[ET.depth]at hd;omega)
  ·cases ho
 | .arr n k e,t,x,y,d,ho,hx,hy,hd=>by
  obtain⟨d,rfl⟩:∃d',d=d'+1:=⟨d - 1,by simp only[ET.depth]at hd;omega⟩
  simp only[etOk]at ho
  split at ho
  ·rename_i n' e' hu
   simp only[Bool.and_eq_true]at ho
   obtain⟨⟨⟨h1,h2⟩,h3⟩,h4⟩:=ho
   have h1:=Nat.eq_of_beq_eq_true h1
   have h2:=Nat.eq_of_beq_eq_true h2
   subst h1
   cases x<;>simp only[yc_]at hx
   cases y<;>simp only[yc_]at hy
   rename_i n1 k1 f n2 k2 g
   obtain⟨rfl,rfl,hf⟩:=hx
   obtain⟨rfl,rfl,hg⟩:=hy
   obtain⟨i,hi,hsz⟩:=sizeIs_spec h3
   rw[den_agg (v:=.arr n k f) rfl,den_agg (v:=.arr n k g) rfl,run_equalIn_array w d _ _ hu hi]
   have hc:P.cellsOf e'=k:=by simp[Program.cellsOf,hi,hsz]
   rw[hc]
   simp only[eqB]
   have key:∀j,j≤n→(Op.eqItems d e' k ((SV.arr n k f).cl β).toArray ((SV.arr n k g).cl β).toArray (List.range' (n - j) j)).run P w=.ok (allB j fun q=>eqB e (f (n - j+q)) (g (n - j+q))) w:=by
    intro j
    induction j with
    | zero=>intro _;rfl
    | succ j ih=>
     intro hj
     rw[List.range'_succ]
     have hp:∀F:Nat→SV,(∀q,q < n→yc_ e (F q))→(part e' ((SV.arr n k F).cl β).toArray ((n - (j+1))*k)).run P w=.ok ((F (n - (j+1))).den β) w:=fun F hF=>by
      have := part_shaped (β := β) (w := w) (v := .arr n k F) (u := F (n - (j + 1))) (pa := [.i (n - (j + 1)) k]) (c := n - (j + 1) < n ∧ True) h4 (by rw [h2]; exact h3) rfl (by
       have hb:Nat.beq (F (n - (j+1))).size k=true:=by rw[(shaped_size e (hF _ (by omega))).1,h2];simp
       simp[nav,hb]) ⟨by omega,trivial⟩ (hF _ (by omega))
      simpa [offp,Stp.off]using this
     simp only[Op.eqItems,Sem.run_bind,hp f hf,hp g hg,Result.andThen_ok,eq_ok e e' (f (n - (j+1))) (g (n - (j+1))) d h4 (hf _ (by omega)) (hg _ (by omega)) (by simp only[ET.depth]at hd;omega)]
     have hall:(allB (j+1) fun q=>eqB e (f (n - (j+1)+q)) (g (n - (j+1)+q)))=(eqB e (f (n - (j+1))) (g (n - (j+1))) && allB j fun q=>eqB e (f (n - j+q)) (g (n - j+q))):=by
      have gen:∀(j:Nat) (p:Nat→Bool),allB (j+1) p=(p 0 && allB j fun q=>p (q+1)):=by
       intro j
       induction j with
       | zero=>intro p;simp[allB]
       | succ j ih=>intro p;rw[allB,ih p];simp only[allB,Bool.and_assoc]
      rw[gen]
      congr 2
      funext q
      rw[show n - (j+1)+(q+1)=n - j+q by omega]
     rw[hall]
     cases hb:eqB e (f (n - (j+1))) (g (n - (j+1)))with
     | false=>simp
     | true=>
      simp only[Bool.not_true,Bool.false_eq_true,if_false,Bool.true_and]
      rw[show n - (j+1)+1=n - j by omega]
      exact ih (by omega)
   have:=key n (Nat.le_refl _)
   rw[Nat.sub_self]at this
   simpa [List.range_eq_range']using this
  ·cases ho
theorem eqFs_ok:∀(es:List ET) (F:List Field) (o:Nat) (pl l pm m:List SV) (d:Nat),etFs P es F o=true→sizeL pl=o→sizeL pm=o→yf_ es l→yf_ es m→depthET es≤d →
  (Op.eqFields d ((SV.agg (pl++l)).cl β).toArray ((SV.agg (pm++m)).cl β).toArray F).run P w=.ok (eqBL es l m) w
 | [],F,o,pl,l,pm,m,d,ho,h1,h2,hl,hm,hd=>by
  simp only[etFs,List.isEmpty_iff]at ho
  subst ho
  rfl
 | e::es,F,o,pl,l,pm,m,d,ho,h1,h2,hl,hm,hd=>by
  cases F with
  | nil=>simp only[etFs]at ho;cases ho
  | cons fd F=>
   simp only[etFs,Bool.and_eq_true,Bool.not_eq_true',beq_eq_false_iff_ne]at ho
   obtain⟨⟨⟨⟨hn,hof⟩,hsz⟩,he⟩,hrest⟩:=ho
   have hof:=Nat.eq_of_beq_eq_true hof
   cases l with
   | nil=>simp only[yf_]at hl
   | cons x xs=>
   cases m with
   | nil=>simp only[yf_]at hm
   | cons y ys=>
   simp only[yf_]at hl hm
   have hp:∀(pre:List SV) (u:SV) (rest:List SV),sizeL pre=o→yc_ e u→(part fd.type ((SV.agg (pre++u::rest)).cl β).toArray fd.offset).run P w=.ok (u.den β) w:=fun pre u rest hz hu=>by
    have := part_shaped (β := β) (w := w) (v := .agg (pre ++ u :: rest)) (u := u) (pa := [.f pre.length o]) (c := True) he hsz rfl (by
     have hb:Nat.beq (sizeL pre) o=true:=by rw[hz];simp
     simp[nav,take_self,hb]) trivial hu
    rw[hof]
    simpa [offp,Stp.off]using this
   simp only[depthET]at hd
   simp only[Op.eqFields,ne_eq,hn,not_false_eq_true,if_true,Sem.run_bind,hp pl x xs h1 hl.1,hp pm y ys h2 hm.1,Result.andThen_ok,eq_ok e fd.type x y d he hl.1 hm.1 (by omega)]
   simp only[eqBL]
   cases hb:eqB e x y with
   | false=>simp
   | true=>
    simp only[Bool.not_true,Bool.false_eq_true,if_false,Bool.true_and]
    have:=eqFs_ok es F (o+e.size) (pl++[x]) xs (pm++[y]) ys d hrest (by rw[sizeL_append,h1];simp[sizeL,(shaped_size e hl.1).1]) (by rw[sizeL_append,h2];simp[sizeL,(shaped_size e hm.1).1]) hl.2 hm.2 (by omega)
    simpa [List.append_assoc]using this
end
theorem eqT_ok {T:Tab}(hT:TabOk P T){op:BinOp}{e:ET}{t:TypeId}{ox oy:Operand}{x y:SV}{c:Prop}{v:SV}(he:T.eq t=some e)(hx:yc_ e x)(hy:yc_ e y)(hb:binE op (eqB e x y)=some (c,v))(hc:c) :
  (binS op t ox oy (x.den β) (y.den β)).run P w=.ok (v.den β) w∧zb_ h v:=by
 obtain⟨h1,h2,h3,h4⟩:=hT.eq t e he
 have hd:(Op.equal t (x.den β) (y.den β)).run P w=.ok (eqB e x y) w:=eq_ok e t x y 10000 h1 hx hy (by have:=Nat.le_of_ble_eq_true h3;omega)
 have hax:=(shaped_size e hx).2.1
 have hay:=(shaped_size e hy).2.1
 rw[h2]at hax hay
 have hdx:=den_agg (β:=β) hax
 have hdy:=den_agg (β:=β) hay
 have key := binE_ok (P := P) (w := w) (β := β) (h := h) (op := op) (r := eqB e x y) (t := t) hb hd (fun op hop=>by
  rw[hdx,hdy]
  rcases hop with rfl|rfl<;>rfl)
 refine⟨?_,key.2⟩
 unfold binS
 rw[Sem.run_bind]
 rw[show (eqGuard op t ox oy (x.den β) (y.den β)).run P w=.ok () w by rw[hdx,hdy];exact run_eqGuard_agg w op t ox oy _ _ h4]
 exact key.1
theorem bool_ite {t:Bool}{x y:SV}:(SV.ite t x y).den β = if t then x.den β else y.den β:=by rw[x1_];cases t<;>rfl
theorem maxV_ok {mx:Bool}{u v r:SV}(hm:maxV mx u v=some r):zb_ h r∧((if mx then Builtin.max2 else Builtin.min2) (u.den β) (v.den β)).run P w=.ok (r.den β) w:=by
 cases u<;>cases v<;>simp only[maxV]at hm<;>try (cases hm;done)
 all_goals
  rename_i k a k' b
  cases hk:keq k k' with
  | false=>rw[hk]at hm;cases hm
  | true=>
   rw[hk]at hm
   have hk:=keq_eq hk
   subst hk
   injection hm with hm
   subst hm
   refine⟨trivial,?_⟩
   cases mx<;>simp[SV.den,Builtin.max2,Builtin.min2]<;>(try split)<;>omega
theorem callV_ok (X:Ctx P T w0 M β h w φ a){b:Builtin}{ts:List TypeId}{xs:List Operand}{c:Prop}{v:SV}{rd:List Nat}{ty:TypeId}{cs:Array Bool}(ho:callV T φ b ts xs=some (c,v,rd))(hc:c) :
  zb_ h v∧(builtin b ts.toArray ty cs (xs.map a.eval).toArray).run P w=.ok (.value (v.den β)) w:=by
 unfold callV at ho
 split at ho
 ·rename_i x
  split at ho
  ·rename_i t c' z i pa k s n cp he
   split at ho
   ·rename_i e kk bb hK
    simp only[Option.some.injEq,Prod.mk.injEq]at ho
    obtain⟨rfl,rfl,rfl⟩:=ho
    obtain⟨h1,h2⟩:=X.ev he hc
    obtain⟨ti,d,hi,hs,hd,ei,rfl,_⟩:=X.tab.ty t _ hK
    refine⟨trivial,?_⟩
    simp[builtin,Builtin.len_,h2,run_underlying hd,SV.den,goInt]
   ·cases ho
  ·rename_i t c' s he
   split at ho
   ·rename_i hK
    simp only[Option.some.injEq,Prod.mk.injEq]at ho
    obtain⟨rfl,rfl,rfl⟩:=ho
    obtain⟨h1,h2⟩:=X.ev he hc
    obtain⟨ti,d,hi,hs,hd,hf⟩:=X.tab.ty t _ hK
    have hf:d=.string:=hf
    subst hf
    refine⟨trivial,?_⟩
    simp[builtin,Builtin.len_,h2,run_underlying hd,SV.den,goInt]
   ·cases ho
  ·cases ho
 ·rename_i x
  split at ho
  ·rename_i t c' z i pa k s n cp he
   split at ho
   ·rename_i e kk bb hK
    simp only[Option.some.injEq,Prod.mk.injEq]at ho
    obtain⟨rfl,rfl,rfl⟩:=ho
    obtain⟨h1,h2⟩:=X.ev he hc
    obtain⟨ti,d,hi,hs,hd,ei,rfl,_⟩:=X.tab.ty t _ hK
    refine⟨trivial,?_⟩
    simp[builtin,Builtin.cap_,h2,run_underlying hd,SV.den,goInt]
   ·cases ho
  ·cases ho
 ·rename_i x y
  split at ho
  ·rename_i c1 u c2 v' hx hy
   split at ho
   ·rename_i r hr
    simp only[Option.some.injEq,Prod.mk.injEq]at ho
    obtain⟨rfl,rfl,rfl⟩:=ho
    obtain⟨h1,h2⟩:=X.ev hx hc.1
    obtain⟨h3,h4⟩:=X.ev hy hc.2
    obtain⟨h5,h6⟩:=maxV_ok (P:=P) (w:=w) (β:=β) (h:=h) hr
    refine⟨h5,?_⟩
    simp only[if_true]at h6
    simp[builtin,Builtin.max_,h2,h4,h6]
   ·cases ho
  ·cases ho
 ·rename_i x y
  split at ho
  ·rename_i c1 u c2 v' hx hy
   split at ho
   ·rename_i r hr
    simp only[Option.some.injEq,Prod.mk.injEq]at ho
    obtain⟨rfl,rfl,rfl⟩:=ho
    obtain⟨h1,h2⟩:=X.ev hx hc.1
    obtain⟨h3,h4⟩:=X.ev hy hc.2
    obtain⟨h5,h6⟩:=maxV_ok (P:=P) (w:=w) (β:=β) (h:=h) hr
    refine⟨h5,?_⟩
    simp only[Bool.false_eq_true,if_false]at h6
    simp[builtin,Builtin.min_,h2,h4,h6]
   ·cases ho
  ·cases ho
 ·cases ho
end
end Go.Proofs.Ytmljmabbopkpiaa.Vm
namespace Go.Proofs.Ytmljmabbopkpiaa.Vm
open Go.RowKit
section
variable {P:Program} {T:Tab} {w0 w:World} {M:Nat→Prop} {β : Env} {φ : Fr} {h h':HM} {a:Act}
theorem zb_.ite {t:Bool}{x y:SV}(h1:zb_ h x)(h2:zb_ h y):zb_ h (SV.ite t x y):=by
 rw[x1_];cases t
 ·exact h2
 ·exact h1
theorem opV_ok (X:Ctx P T w0 M β h' w φ a){o:Oper}{c:Prop}{v:SV}{rd:List Nat}(ho:opV T φ h o.op=some (c,v,rd))(hc:c)(hrd:∀i∈rd,h' i=h i) :
  zb_ h' v∧(execOp a.eval o).run P w=.ok (.value (v.den β)) w:=by
 obtain⟨dst,op,ty,pos,after,gd⟩:=o
 simp only at ho
 cases op<;>simp only[opV]at ho<;>try (cases ho;done)
 case move x=>
  split at ho
  ·exact d9_
  ·cases ho
 case assign x=>
  split at ho
  ·exact d9_
  ·cases ho
 case pick b x y=>
  split at ho
  ·rename_i c0 t c1 v1 c2 v2 hb hx hy
   simp only[Option.some.injEq,Prod.mk.injEq]at ho
   obtain⟨rfl,rfl,rfl⟩:=ho
   obtain⟨_,h2⟩:=X.ev hb hc.1
   cases t with
   | true=>
    obtain⟨h3,h4⟩:=X.ev hx (hc.2.1 rfl)
    refine⟨by rw[x1_];exact h3,?_⟩
    rw[bool_ite]
    simp[execOp,h2,SV.den,asBool,h4]
   | false=>
    obtain⟨h3,h4⟩:=X.ev hy (hc.2.2 rfl)
    refine⟨by rw[x1_];exact h3,?_⟩
    rw[bool_ite]
    simp[execOp,h2,SV.den,asBool,h4]
  ·cases ho
 case load t x=>
  split at ho
  ·rename_i c' i pa he
   unfold loadV at ho
   split at ho
   ·rename_i u K hu hK
    split at ho
    ·rename_i d u' hn
     cases hf:fitsT u' K with
     | false=>rw[hf]at ho;cases ho
     | true=>
      rw[hf]at ho
      simp only[cond_true,Option.some.injEq,Prod.mk.injEq]at ho
      obtain⟨rfl,rfl,rfl⟩:=ho
      obtain⟨h1,h2⟩:=X.ev he hc.1
      have hi:h' i=h i:=hrd i (.head _)
      obtain⟨_,_,hp,hz⟩:=fitsT_spec hf
      have hB:=X.rep.blk i
      have hS:=X.rep.st i
      rw[hi]at hB hS
      obtain⟨b,hb,hcell⟩:=cells_at hB hu hn hc.2 hz
      refine⟨?_,?_⟩
      ·cases hh:h i with
       | own t' v' ex=>rw[hh]at hS hu;injection hu with hu;subst hu;exact zb_.of_nav hS hn
       | ro v'=>rw[hh]at hS hu;injection hu with hu;subst hu;exact zb_.of_nav hS hn
       | raw o=>rw[hh]at hu;cases hu
       | gone=>rw[hh]at hu;cases hu
       | dead=>rw[hh]at hu;cases hu
      ·have hl:=run_loadVar_of X.tab hK hf hcell
       simp[execOp,Instr.loadAt,h2,SV.den,hb,Instr.sureAddr,hl]
    ·cases ho
   ·cases ho
  ·cases ho
 case nilCheck x=>
  split at ho
  ·rename_i c' i pa he
   simp only[Option.some.injEq,Prod.mk.injEq]at ho
   obtain⟨rfl,rfl,rfl⟩:=ho
   obtain⟨h1,h2⟩:=X.ev he hc
   exact⟨h1,by simp[execOp,h2,SV.den]⟩
  ·rename_i c' f l he
   simp only[Option.some.injEq,Prod.mk.injEq]at ho
   obtain⟨rfl,rfl,rfl⟩:=ho
   obtain⟨h1,h2⟩:=X.ev he hc
   exact⟨h1,by simp[execOp,h2,SV.den]⟩
  ·cases ho
 case binOp op t x y yt=>
  split at ho
  ·rename_i c1 u c2 v' hx hy
   split at ho
   ·rename_i e r hr
    simp only[Option.some.injEq,Prod.mk.injEq]at ho
    obtain⟨rfl,rfl,rfl⟩:=ho
    obtain⟨h1,h2⟩:=X.ev hx hc.1
    obtain⟨h3,h4⟩:=X.ev hy hc.2.1
    obtain⟨h5,h6⟩:=bin_ok (P:=P) (w:=w) (β:=β) (h:=h') (ox:=x) (oy:=y) X.tab hr hc.2.2
    refine⟨h6,?_⟩
    unfold binS at h5
    simp only[execOp,h2,h4]
    rw[Sem.run_bind,h5]
    simp
   ·split at ho
    ·rename_i et het
     split at ho
     ·rename_i e r hr
      simp only[Option.some.injEq,Prod.mk.injEq]at ho
      obtain⟨rfl,rfl,rfl⟩:=ho
      obtain⟨hc1,hc2,hc3,hc4,hc5⟩:=hc
      obtain⟨h1,h2⟩:=X.ev hx hc1
      obtain⟨h3,h4⟩:=X.ev hy hc2
      obtain⟨h5,h6⟩:=eqT_ok (P:=P) (w:=w) (β:=β) (h:=h') (ox:=x) (oy:=y) X.tab het hc3 hc4 hr hc5
      refine⟨h6,?_⟩
      unfold binS at h5
      simp only[execOp,h2,h4]
      rw[Sem.run_bind,h5]
      simp
     ·cases ho
    ·cases ho
  ·cases ho
 case unOp uo t x=>
  cases uo<;>simp only at ho<;>try (cases ho;done)
  split at ho
  ·rename_i c' b he
   simp only[Option.some.injEq,Prod.mk.injEq]at ho
   obtain⟨rfl,rfl,rfl⟩:=ho
   obtain⟨h1,h2⟩:=X.ev he hc
   exact⟨trivial,by simp[execOp,h2,SV.den,Op.unary]⟩
  ·cases ho
 case convert s t x=>
  split at ho
  ·rename_i K k c' k' n hs ht he
   obtain⟨i1,d1,_,_,hd1,_⟩:=X.tab.ty s _ hs
   obtain⟨i2,d2,_,_,hd2,hf2⟩:=X.tab.ty t _ ht
   have hf2:d2=.int k:=hf2
   subst hf2
   cases hnr:narrow k' k with
   | true=>
    rw[hnr]at ho
    simp only[cond_true,Option.some.injEq,Prod.mk.injEq]at ho
    obtain⟨rfl,rfl,rfl⟩:=ho
    obtain⟨h1,h2⟩:=X.ev he hc
    refine⟨trivial,?_⟩
    have:(convert s t (.int k' (n:Int))).run P w=.ok (.int k (k.wrap (n:Int))) w:=by
     simp[convert,run_underlying hd1,run_underlying hd2,Conv.intToInt]
    simp[execOp,h2,SV.den,this]
   | false=>
    rw[hnr]at ho
    simp only[cond_false,Option.some.injEq,Prod.mk.injEq]at ho
    obtain⟨rfl,rfl,rfl⟩:=ho
    obtain⟨h1,h2⟩:=X.ev he hc.1
    refine⟨trivial,?_⟩
    have:(convert s t (.int k' (n:Int))).run P w=.ok (.int k (n:Int)) w:=by
     simp[convert,run_underlying hd1,run_underlying hd2,Conv.intToInt,wrap_inN hc.2]
    simp[execOp,h2,SV.den,this]
  ·rename_i K k c' k' n hs ht he
   obtain⟨i1,d1,_,_,hd1,_⟩:=X.tab.ty s _ hs
   obtain⟨i2,d2,_,_,hd2,hf2⟩:=X.tab.ty t _ ht
   have hf2:d2=.int k:=hf2
   subst hf2
   cases hnr:narrow k' k with
   | true=>
    rw[hnr]at ho
    simp only[cond_true,Option.some.injEq,Prod.mk.injEq]at ho
    obtain⟨rfl,rfl,rfl⟩:=ho
    obtain⟨h1,h2⟩:=X.ev he hc
    refine⟨trivial,?_⟩
    have:(convert s t (.int k' n)).run P w=.ok (.int k (k.wrap n)) w:=by
     simp[convert,run_underlying hd1,run_underlying hd2,Conv.intToInt]
    simp[execOp,h2,SV.den,this]
   | false=>
    rw[hnr]at ho
    simp only[cond_false,Option.some.injEq,Prod.mk.injEq]at ho
    obtain⟨rfl,rfl,rfl⟩:=ho
    obtain⟨h1,h2⟩:=X.ev he hc.1
    refine⟨trivial,?_⟩
    have:(convert s t (.int k' n)).run P w=.ok (.int k n) w:=by
     simp[convert,run_underlying hd1,run_underlying hd2,Conv.intToInt,wrap_inR hc.2]
    simp[execOp,h2,SV.den,this]
  ·rename_i c' u hs ht he
   simp only[Option.some.injEq,Prod.mk.injEq]at ho
   obtain⟨rfl,rfl,rfl⟩:=ho
   obtain⟨h1,h2⟩:=X.ev he hc
   obtain⟨i1,d1,_,_,hd1,hf1⟩:=X.tab.ty s _ hs
   obtain⟨i2,d2,_,_,hd2,hf2⟩:=X.tab.ty t _ ht
   have hf1:d1=.string:=hf1
   have hf2:d2=.string:=hf2
   subst hf1;subst hf2
   refine⟨trivial,?_⟩
   have:(convert s t (.string u)).run P w=.ok (.string u) w:=by
    simp[convert,run_underlying hd1,run_underlying hd2]
   simp[execOp,h2,SV.den,this]
  ·cases ho
 case makeFunc fn first caps=>
  cases fn<;>simp only at ho<;>try (cases ho;done)
  split at ho
  ·rename_i c' vs hl he
   simp only[Option.some.injEq,Prod.mk.injEq]at ho
   obtain⟨rfl,rfl,rfl⟩:=ho
   obtain⟨h1,h2⟩:=evL_spec X.fits X.rep.nil X.rep.nil0 he hc
   refine⟨h1,?_⟩
   have e1:first = #[]:=by apply Array.ext';simpa using hl
   have e2:caps.map a.eval=(denL β vs).toArray:=by apply Array.ext';simpa using h2
   simp[execOp,Instr.makeFunc,e1,e2,SV.den]
  ·cases ho
 case fieldAddr t x j=>
  split at ho
  ·rename_i n os c' i pa hK he
   split at ho
   ·rename_i oo s g hj
    simp only[Option.some.injEq,Prod.mk.injEq]at ho
    obtain⟨rfl,rfl,rfl⟩:=ho
    obtain⟨h1,h2⟩:=X.ev he hc
    refine⟨h1,?_⟩
    have:=run_fieldAt (w:=w) (b:=(((β i).1.getD ⟨0,0,none⟩).add (offp pa))) X.tab hK hj
    simp[execOp,h2,SV.den,this,add_add,offp_snoc,Stp.off]
   ·cases ho
  ·cases ho
 case field t x j=>
  split at ho
  ·rename_i n os c' u hK he
   split at ho
   ·rename_i oo s g hj
    split at ho
    ·rename_i d u' hn
     cases hf:Nat.beq u'.size s && (u'.isAgg == g) && u'.plain && u.isAgg with
     | false=>rw[hf]at ho;cases ho
     | true=>
      rw[hf]at ho
      simp only[cond_true,Option.some.injEq,Prod.mk.injEq]at ho
      obtain⟨rfl,rfl,rfl⟩:=ho
      simp only[Bool.and_eq_true,beq_iff_eq]at hf
      obtain⟨⟨⟨hf1,hf2⟩,hf3⟩,hf4⟩:=hf
      obtain⟨h1,h2⟩:=X.ev he hc.1
      obtain⟨i,d,hi,hs,hd,fs,rfl,hl,hfl⟩:=X.tab.ty t _ hK
      obtain⟨f,hfj,rfl,hS,hpos⟩:=hfl j oo s g hj
      have hp:=part_of_nav (P:=P) (w:=w) (β:=β) hS hf4 hn hc.2 (Nat.eq_of_beq_eq_true hf1) hf2 hf3
      simp only[offp,Stp.off,Nat.add_zero]at hp
      refine⟨zb_.of_nav h1 hn,?_⟩
      simp[execOp,Instr.field,h2,den_agg hf4,run_underlying hd,hfj,asAgg,hp]
    ·cases ho
   ·cases ho
  ·cases ho
 case indexAddr t x y=>
  split at ho
  ·rename_i e k b c1 z i pa k' s n cc c2 yv hK hx hy
   split at ho
   ·rename_i e' kk m ha
    cases hk:Nat.beq k k' with
    | false=>rw[hk]at ho;cases ho
    | true=>
     rw[hk]at ho
     simp only[cond_true,Option.some.injEq,Prod.mk.injEq]at ho
     obtain⟨rfl,rfl,rfl⟩:=ho
     have hk:=Nat.eq_of_beq_eq_true hk
     subst hk
     obtain⟨h1,h2⟩:=X.ev hx hc.1
     obtain⟨h3,h4⟩:=X.ev hy hc.2.1
     rw[asN_den ha hc.2.2.1]at h4
     refine⟨h1.2,?_⟩
     have hq:=run_indexAt_slice (w:=w) (β:=β) (z:=z) (i:=i) (s:=s) (pa:=pa) (c:=cc) (kk:=kk) (k':=0) X.tab hK hc.2.2.2
     simp[execOp,h2,h4,hq]
   ·cases ho
  ·rename_i e n k g c1 i pa c2 yv hK hx hy
   split at ho
   ·rename_i e' kk m ha
    simp only[Option.some.injEq,Prod.mk.injEq]at ho
    obtain⟨rfl,rfl,rfl⟩:=ho
    obtain⟨h1,h2⟩:=X.ev hx hc.1
    obtain⟨h3,h4⟩:=X.ev hy hc.2.1
    rw[asN_den ha hc.2.2.1]at h4
    refine⟨h1,?_⟩
    simp[execOp,h2,h4,run_indexAt_array X.tab hK hc.2.2.2]
   ·cases ho
  ·cases ho
 case index t x y=>
  split at ho
  ·rename_i e n k g c1 u c2 yv hK hx hy
   split at ho
   ·rename_i e' kk m ha
    split at ho
    ·rename_i f u' hn
     cases hf:Nat.beq u'.size k && (u'.isAgg == g) && u'.plain && u.isAgg with
     | false=>rw[hf]at ho;cases ho
     | true=>
      rw[hf]at ho
      simp only[cond_true,Option.some.injEq,Prod.mk.injEq]at ho
      obtain⟨rfl,rfl,rfl⟩:=ho
      simp only[Bool.and_eq_true,beq_iff_eq]at hf
      obtain⟨⟨⟨hf1,hf2⟩,hf3⟩,hf4⟩:=hf
      obtain⟨h1,h2⟩:=X.ev hx hc.1
      obtain⟨h3,h4⟩:=X.ev hy hc.2.1
      rw[asN_den ha hc.2.2.1]at h4
      obtain⟨ti,d,hi,hs,hd,rfl,hS,hpos⟩:=X.tab.ty t _ hK
      have hm:=hc.2.2.2.1
      have hp:=part_of_nav (P:=P) (w:=w) (β:=β) hS hf4 hn hc.2.2.2.2 (Nat.eq_of_beq_eq_true hf1) hf2 hf3
      simp only[offp,Stp.off,Nat.add_zero]at hp
      obtain⟨ei,ed,hei,hes,hed,hea⟩:=hS
      refine⟨zb_.of_nav h1 hn,?_⟩
      simp[execOp,Instr.index,h2,h4,den_agg hf4,run_underlying hd,x4_ hei,hes,hm,asIntOf,hp]
    ·cases ho
   ·cases ho
  ·rename_i c1 s c2 yv hK hx hy
   split at ho
   ·rename_i e' kk m ha
    simp only[Option.some.injEq,Prod.mk.injEq]at ho
    obtain⟨rfl,rfl,rfl⟩:=ho
    obtain⟨h1,h2⟩:=X.ev hx hc.1
    obtain⟨h3,h4⟩:=X.ev hy hc.2.1
    rw[asN_den ha hc.2.2.1]at h4
    have hm:m < s.size:=hc.2.2.2
    obtain⟨ti,d,hi,hs,hd,hf⟩:=X.tab.ty t _ hK
    have hf:d=.string:=hf
    subst hf
    refine⟨trivial,?_⟩
    have hb:bat s m=((s[m]'hm).toNat:Int):=by unfold bat;rw[ByteArray.getElem?_lt' s _ hm]
    have hr:=run_index_string (P:=P) w t s kk (m:Int) hd
    rw[dif_pos ⟨by omega,by omega⟩]at hr
    have hr2:(Instr.index t (.string s) (.int kk (m:Int))).run P w=.ok (.int .u8 ((s[m]'hm).toNat:Int)) w:=hr
    simp[execOp,h2,h4,SV.den,hb,hr2]
   ·cases ho
  ·cases ho
 case extract x j=>
  split at ho
  ·rename_i c' l he
   split at ho
   ·rename_i u hl
    simp only[Option.some.injEq,Prod.mk.injEq]at ho
    obtain⟨rfl,rfl,rfl⟩:=ho
    obtain⟨h1,h2⟩:=X.ev he hc
    refine⟨yx_.1 h1 _ (List.mem_of_getElem? hl),?_⟩
    simp[execOp,h2,SV.den,Instr.extract,denL_get hl]
   ·cases ho
  ·cases ho
 case call cl=>
  split at ho
  ·rename_i b hb
   obtain⟨callee,args,tys⟩:=cl
   simp only at hb ho
   subst hb
   have h2:=fun cs=>(callV_ok (ty:=ty) (cs:=cs) X ho hc).2
   refine⟨(callV_ok (ty:=ty) (cs:=#[]) X ho hc).1,?_⟩
   have e:(args.toList.map a.eval).toArray=args.map a.eval:=by apply Array.ext';simp
   simp only[e,Array.toArray_toList]at h2
   simp[execOp,resolve,invoke,h2]
  ·cases ho
end
end Go.Proofs.Ytmljmabbopkpiaa.Vm
namespace Go.Proofs.Ytmljmabbopkpiaa.Vm
open Go.RowKit
def fillV (φ : Fr)(pl:Nat→Option (Stp×Nat)):List (Nat×Operand)→SV→Option (Prop×SV)
 | [],z=>some (True,z)
 |(j,x)::l,z=>match ev φ x,pl j with
  | some (c,v),some (s,n)=>match nav z [s],setp z [s] v with
   | some (d,u),some z'=>bif Nat.beq v.size n && Nat.beq u.size n && v.plain then match fillV φ pl l z' with
     | some (e,r)=>some (c∧d∧e,r)
     | none=>none
    else none
   | _,_=>none
  | _,_=>none
theorem foldl_zipIdx_set (off:Nat):∀(l:List Value) (k:Nat) (pre old post:List Value),old.length=l.length→pre.length=off+k →
  (l.zipIdx k).foldl (fun (cs:Array Value) p=>cs.setIfInBounds (off+p.2) p.1) (pre++old++post).toArray=(pre++l++post).toArray
 | [],k,pre,old,post,h1,h2=>by
  have:old=[]:=List.eq_nil_of_length_eq_zero h1
  subst this;rfl
 | x::l,k,pre,[],post,h1,h2=>by cases h1
 | x::l,k,pre,y::old,post,h1,h2=>by
  rw[List.zipIdx_cons,List.foldl_cons]
  have e:((pre++y::old++post).toArray.setIfInBounds (off+k) x)=((pre++[x])++old++post).toArray:=by
   apply Array.ext'
   simp only[Array.toList_setIfInBounds]
   rw[←h2,List.append_assoc,List.set_append_right _ _ (Nat.le_refl _)]
   simp[List.append_assoc]
  rw[e,foldl_zipIdx_set off l (k+1) (pre++[x]) old post (by simpa using h1) (by simp[h2];omega)]
  simp[List.append_assoc]
theorem cells_plain {β : Env}{v:SV}(hp:v.plain=true):(v.den β).cells=(v.cl β).toArray:=by
 cases ha:v.isAgg with
 | true=>rw[den_agg ha];rfl
 | false=>
  have hc:∀u:SV,u.isAgg=false→u.plain=true→(u.den β).cells = #[u.den β]:=fun u h2 h3=>by
   cases u<;>first |(cases h2;done) |(cases h3;done)|rfl|skip
   simp only[SV.den];split<;>rfl
  rw[hc v ha hp,den_cell ha hp]
section
variable {P:Program} {T:Tab} {w0 w:World} {M:Nat→Prop} {β : Env} {φ : Fr} {h h':HM} {a:Act}
theorem fillV_ok (X:Ctx P T w0 M β h w φ a){pl:Nat→Option (Stp×Nat)}{place:Nat→Option (Nat×Nat)}(hpl:∀j s n,pl j=some (s,n)→place j=some (s.off,n)) :
  ∀{l:List (Nat×Operand)} {z r:SV} {c:Prop},fillV φ pl l z=some (c,r)→c→zb_ h z →
   zb_ h r∧r.size=z.size∧Instr.fill place (z.cl β).toArray (l.map fun p=>(p.1,a.eval p.2))=some (r.cl β).toArray
 | [],z,r,c,hf,hc,hz=>by
  simp only[fillV,Option.some.injEq,Prod.mk.injEq]at hf
  obtain⟨_,rfl⟩:=hf
  exact⟨hz,rfl,rfl⟩
 |(j,x)::l,z,r,c,hf,hc,hz=>by
  simp only[fillV]at hf
  split at hf
  ·rename_i c1 v s n he hp
   split at hf
   ·rename_i d u z' hn hs
    cases hb:Nat.beq v.size n && Nat.beq u.size n && v.plain with
    | false=>rw[hb]at hf;cases hf
    | true=>
     rw[hb]at hf
     simp only[cond_true]at hf
     split at hf
     ·rename_i e r' hr
      simp only[Option.some.injEq,Prod.mk.injEq]at hf
      obtain⟨rfl,rfl⟩:=hf
      simp only[Bool.and_eq_true]at hb
      obtain⟨⟨hb1,hb2⟩,hb3⟩:=hb
      have hb1:=Nat.eq_of_beq_eq_true hb1
      have hb2:=Nat.eq_of_beq_eq_true hb2
      obtain⟨h1,h2⟩:=X.ev he hc.1
      have hsz:v.size=u.size:=hb1.trans hb2.symm
      obtain⟨hz',pre,post,e1,e2,e3⟩:=setp_spec β _ z d u v z' hn hc.2.1 hsz hs
      simp only[offp,Nat.add_zero]at e3
      obtain⟨k1,k2,k3⟩:=fillV_ok X hpl hr hc.2.2 (zb_.of_setp hz h1 hs)
      refine⟨k1,k2.trans hz',?_⟩
      simp only[List.map_cons,Instr.fill,hpl j s n hp,h2,cells_plain hb3]
      have q1:¬(v.cl β).toArray.size≠n:=by rw[List.size_toArray,zy_];omega
      have q2:¬(s.off+(v.cl β).toArray.size >(z.cl β).toArray.size):=by
       rw[List.size_toArray,List.size_toArray,e1]
       simp only[List.length_append,zy_]
       omega
      have q3:((v.cl β).toArray.zipIdx.foldl (fun (cs:Array Value) (p:Value×Nat)=>cs.setIfInBounds (s.off+p.2) p.1) (z.cl β).toArray)=(z'.cl β).toArray:=by
       rw[←Array.foldl_toList,Array.toList_zipIdx,e1,e2]
       exact foldl_zipIdx_set s.off (v.cl β) 0 pre (u.cl β) post (by rw[zy_,zy_,hsz]) (by rw[e3];rfl)
      have q3':((v.cl β).toArray.zipIdx.foldl (fun cs (c,j)=>cs.setIfInBounds (s.off+j) c) (z.cl β).toArray)=(z'.cl β).toArray:=q3
      have q4:(decide ((v.cl β).toArray.size≠n) || decide (s.off+(v.cl β).toArray.size >(z.cl β).toArray.size))=false:=by
       simp only[q1,q2,decide_false,Bool.or_self]
      simp only[q1,q2,or_self,if_false,q3',k3]
      simp
     ·cases hf
   ·cases hf
  ·cases hf
end
def wrs (h:HM):List (Nat×HB)→HM
 | []=>h
 | p::l=>wrs (upd h p.1 p.2) l
def evO (φ : Fr)(d:Nat):Option Operand→Option (Prop×Nat)
 | none=>some (True,d)
 | some x=>match ev φ x with
  | some (c,v)=>match asN v with
   | some (e,_,n)=>some (c∧e,n)
   | none=>none
  | none=>none
abbrev Eff:=Prop×SV×List Nat×List (Nat×HB)
def buildV (T:Tab)(φ : Fr)(t:TypeId)(ps:List (Nat×Operand)):Option Eff:=
 match T.ty t,T.zero t with
 | some (.struct _ os),some z=>match fillV φ (fun j=>match os[j]? with|some (o,s,_)=>some (.f j o,s)|none=>none) ps z with
  | some (c,r)=>bif r.isAgg then some (c,r,[],[])else none
  | none=>none
 | some (.array _ _ k _),some z=>match fillV φ (fun j=>some (.i j k,k)) ps z with
  | some (c,r)=>bif r.isAgg then some (c,r,[],[])else none
  | none=>none
 | _,_=>none
def storeV (T:Tab)(φ : Fr)(h:HM)(t:TypeId)(x y:Operand):Option Eff:=
 match ev φ x,ev φ y,T.ty t with
 | some (c,.ptr i pa),some (d,v),some K=>match h i with
  | .own t' u ex=>match nav u pa,setp u pa v with
   | some (e,u'),some u''=>bif Nat.beq v.size u'.size && Nat.beq v.size K.size && v.plain && Nat.blt 0 u'.size then
     match pa with
     | []=>match u'' with
      | .arr ..=>none
      | _=>some (c∧d∧e,.tup [],[i],[(i,.own t' u'' ex)])
     | _=>some (c∧d∧e,.tup [],[i],[(i,.own t' u'' ex)])
    else none
   | _,_=>none
  | _=>none
 | _,_,_=>none
def makeV (T:Tab)(φ : Fr)(m:Nat)(t:TypeId)(l c:Operand):Option Eff:=
 match T.ty t,ev φ l,ev φ c with
 | some (.slice e k b),some (c1,lv),some (c2,cv)=>match asN lv,asN cv,T.zero e with
  | some (d1,_,n),some (d2,_,cp),some z=>bif Nat.beq z.size k then
    some (c1∧c2∧d1∧d2∧n≤cp∧b*cp≤281474976710656∧cp≤9223372036854775807,.sl m m [] k 0 n none,[],[(m,.own e (.arr cp k fun _=>z) true)])else none
  | _,_,_=>none
 | _,_,_=>none
def buildSliceV (T:Tab)(φ : Fr)(m:Nat)(t:TypeId)(len:Nat)(ps:List (Nat×Operand)):Option Eff:=
 match T.ty t with
 | some (.slice e k b)=>match T.zero e with
  | some z=>match fillV φ (fun j=>some (.i j k,k)) ps (.agg (List.replicate len z))with
   | some (c,.agg l)=>bif Nat.beq z.size k && Nat.beq l.length len && l.all (fun v=>Nat.beq v.size k) && Nat.ble (len*k) 16777216 then
     some (c,.sl m m [] k 0 len none,[],[(m,.own e (.arr len k fun i=>l.getD i z) true)])else none
   | _=>none
  | none=>none
 | _=>none
def sliceV (T:Tab)(φ : Fr)(m:Nat)(t:TypeId)(x:Operand)(lo hi:Option Operand):Option Eff:=
 match T.ty t,ev φ x with
 | some (.slice _ k _),some (c,.sl z i pa k' s n cp)=>match evO φ 0 lo,evO φ n hi with
  | some (d,l),some (e,r)=>bif Nat.beq k k' then some (c∧d∧e∧l≤r∧r≤n,.sl m i pa k (s+l) (r - l) none,[],[(m,.gone)])else none
  | _,_=>none
 | some (.array _ n k _),some (c,.ptr i pa)=>match evO φ 0 lo,evO φ n hi with
  | some (d,l),some (e,r)=>some (c∧d∧e∧l≤r∧r≤n,.sl m i pa k l (r - l) none,[],[(m,.gone)])
  | _,_=>none
 | _,_=>none
section
variable {P:Program} {T:Tab} {w0 w:World} {M:Nat→Prop} {β : Env} {φ : Fr} {h h':HM} {a:Act}
def Does (P:Program)(a:Act)(o:Oper)(w0:World)(M:Nat→Prop)(β : Env)(h:HM)(w:World)(v:SV)(wr:List (Nat×HB)):Prop:=
 ∃β' w' u,((execOp a.eval o).run P w=.ok (.value u) w'∨((execOp a.eval o).run P w=.ok .skip w'∧u=undef)) ∧
  (∀i,(h i).born=true→β i = β' i)∧Rep w0 M β' (wrs h wr) w'∧zb_ (wrs h wr) v∧u=v.den β'
theorem newVar_run {t:TypeId}{v:Value}:(newVar t v).run P w=.ok ⟨w.heap.size,0,none⟩ (w.alloc (.cells v.cells t)):=by
 simp[newVar,newRow]
theorem ptr_new {m g c:Nat}:(SV.ptr m []).den (setE β m (some ⟨g,0,none⟩,c))=.pointer (some ⟨g,0,none⟩):=by
 simp only[SV.den,z4_,offp,Option.getD_some,Addr.add];rfl
theorem alloc_ok (X:Ctx P T w0 M β h' w φ a){o:Oper}{t:TypeId}{z:SV}{m:Nat}(ho:o.op=.alloc t)(hz:T.zero t=some z)(hm:h' m=.dead) :
  Does P a o w0 M β h' w (.ptr m []) [(m,.own t z true)]:=by
 obtain⟨hp,hst,i,hi,hs,hden⟩:=X.tab.zero t z hz
 have R:=X.rep.alloc m hm (match z with | .arr n _ _=>n|_=>1) t z (hst _ X.rep.nil0) (fun n k f hv=>by subst hv;rfl)
 refine⟨_,_,_,.inl ?_,yd_ hm,R,?_,rfl⟩
 ·have hc:=cells_plain (β:=β) hp
  obtain⟨dst,op,ty,pos,after,gd⟩:=o
  simp only at ho
  subst ho
  rw[ptr_new]
  simp[execOp,Instr.alloc,zeroValue,typeInfo,hi,hden β X.rep.nil,newVar_run,hc]
 ·show (upd h' m _ m).born=true
  rw[z1_];rfl
theorem box_ok (X:Ctx P T w0 M β h' w φ a){o:Oper}{t:TypeId}{x:Operand}{c:Prop}{v:SV}{m:Nat}(ho:o.op=.box t x)(he:ev φ x=some (c,v))(hc:c)(hp:v.plain=true)(hm:h' m=.dead) :
  Does P a o w0 M β h' w (.ptr m []) [(m,.own t v true)]:=by
 obtain⟨h1,h2⟩:=X.ev he hc
 have R:=X.rep.alloc m hm (match v with | .arr n _ _=>n|_=>1) t v h1 (fun n k f hv=>by subst hv;rfl)
 refine⟨_,_,_,.inl ?_,yd_ hm,R,?_,rfl⟩
 ·have hc:=cells_plain (β:=β) hp
  obtain⟨dst,op,ty,pos,after,gd⟩:=o
  simp only at ho
  subst ho
  rw[ptr_new]
  simp[execOp,Instr.box,newVar_run,hc,h2]
 ·show (upd h' m _ m).born=true
  rw[z1_];rfl
theorem mapM_places:∀(fs:List Field) (os:List (Nat×Nat×Bool)),os.length=fs.length→(∀(j o s:Nat) (g:Bool),os[j]? = some (o,s,g)→∃f:Field,fs[j]? = some f∧f.offset=o∧HasSize P f.type s g∧0 < s) →
  fs.mapM (fun f=>(P.info? f.type).map fun i=>(f.offset,i.size))=some (os.map fun p=>(p.1,p.2.1))
 | [],[],_,_=>rfl
 | [],_::_,h,_=>by cases h
 | _::_,[],h,_=>by cases h
 | f::fs,(o,s,g)::os,hl,hf=>by
  obtain⟨f',h1,h2,⟨i,d,hi,hs,_⟩,_⟩:=hf 0 o s g rfl
  simp only[List.getElem?_cons_zero,Option.some.injEq]at h1
  subst h1
  have ih:=mapM_places fs os (by simpa using hl) (fun j o s g hj=>hf (j+1) o s g hj)
  rw[List.mapM_cons,ih]
  simp[hi,hs,h2]
theorem build_ok (X:Ctx P T w0 M β h' w φ a){o:Oper}{t:TypeId}{ps:Array (Nat×Operand)}{c:Prop}{v:SV}{rd:List Nat}{wr:List (Nat×HB)}(ho:o.op=.build t ps)(hb:buildV T φ t ps.toList=some (c,v,rd,wr))(hc:c) :
  Does P a o w0 M β h' w v wr:=by
 unfold buildV at hb
 obtain⟨dst,op,ty,pos,after,gd⟩:=o
 simp only at ho
 subst ho
 have fin:∀(r:SV) (cells:Array Value),P.built t (ps.toList.map fun p=>(p.1,a.eval p.2))=some cells→cells=(r.cl β).toArray→r.isAgg=true →
   (execOp a.eval ⟨dst,.build t ps,ty,pos,after,gd⟩).run P w=.ok (.value (r.den β)) w:=by
  intro r cells h1 h2 h3
  have:=run_build (P:=P) w t (ps.map fun (i,x)=>(i,a.eval x)) cells (by simpa using h1)
  simp[execOp,this,h2,den_agg h3]
 split at hb
 ·rename_i n os z hK hz
  split at hb
  ·rename_i c' r hf
   cases hr:r.isAgg with
   | false=>rw[hr]at hb;cases hb
   | true=>
    rw[hr]at hb
    simp only[cond_true,Option.some.injEq,Prod.mk.injEq]at hb
    obtain⟨rfl,rfl,rfl,rfl⟩:=hb
    obtain⟨ti,d,hti,hts,hd,fs,rfl,hl,hfl⟩:=X.tab.ty t _ hK
    obtain⟨hp,hst,i,hi,hs,hden⟩:=X.tab.zero t z hz
    obtain ⟨k1, k2, k3⟩ := fillV_ok (place := fun j => ((os.map fun p => (p.1, p.2.1)).toArray)[j]?) X (fun j s n hj=>by
     split at hj
     ·rename_i oo ss g hos
      simp only[Option.some.injEq,Prod.mk.injEq]at hj
      obtain⟨rfl,rfl⟩:=hj
      simp[hos,Stp.off]
     ·cases hj) hf hc (hst _ X.rep.nil0)
    have hm := mapM_places (P := P) fs.toList os (by simpa using hl) (fun j o s g hj=>by
     obtain⟨f,q⟩:=hfl j o s g hj
     exact⟨f,by simpa using q.1,q.2⟩)
    refine⟨β,w,_,.inl (fin r _ ?_ rfl hr),fun _ _=>rfl,X.rep,k1,rfl⟩
    unfold Program.built
    rw[hi,hd]
    simp only[hden β X.rep.nil,hm,cells_plain hp]
    exact k3
  ·cases hb
 ·rename_i e n k g z hK hz
  split at hb
  ·rename_i c' r hf
   cases hr:r.isAgg with
   | false=>rw[hr]at hb;cases hb
   | true=>
    rw[hr]at hb
    simp only[cond_true,Option.some.injEq,Prod.mk.injEq]at hb
    obtain⟨rfl,rfl,rfl,rfl⟩:=hb
    obtain⟨ti,d,hti,hts,hd,rfl,⟨ei,ed,hei,hes,hed,hea⟩,hpos⟩:=X.tab.ty t _ hK
    obtain⟨hp,hst,i,hi,hs,hden⟩:=X.tab.zero t z hz
    obtain ⟨k1, k2, k3⟩ := fillV_ok (place := fun j => some (j * k, k)) X (fun j s n hj=>by
     simp only[Option.some.injEq,Prod.mk.injEq]at hj
     obtain⟨rfl,rfl⟩:=hj
     rfl) hf hc (hst _ X.rep.nil0)
    refine⟨β,w,_,.inl (fin r _ ?_ rfl hr),fun _ _=>rfl,X.rep,k1,rfl⟩
    unfold Program.built
    rw[hi,hd]
    simp only[hden β X.rep.nil,hei,hes,cells_plain hp]
    exact k3
  ·cases hb
 ·cases hb
theorem store_ok (X:Ctx P T w0 M β h' w φ a){o:Oper}{t:TypeId}{x y:Operand}{c:Prop}{v:SV}{rd:List Nat}{wr:List (Nat×HB)}(ho:o.op=.store t x y)(hb:storeV T φ h t x y=some (c,v,rd,wr))(hc:c)
  (hrd:∀i∈rd,h' i=h i):Does P a o w0 M β h' w v wr:=by
 obtain⟨dst,op,ty,pos,after,gd⟩:=o
 simp only at ho
 subst ho
 unfold storeV at hb
 split at hb
 ·rename_i c1 i pa c2 u K hx hy hK
  split at hb
  ·rename_i t' b ex hh
   split at hb
   ·rename_i e u' u'' hn hs
    cases hq:Nat.beq u.size u'.size && Nat.beq u.size K.size && u.plain && Nat.blt 0 u'.size with
    | false=>rw[hq]at hb;cases hb
    | true=>
     rw[hq]at hb
     simp only[cond_true]at hb
     have hb':c=(c1∧c2∧e)∧v=.tup []∧rd=[i]∧wr=[(i,.own t' u'' ex)]∧(∀n k f,u''=.arr n k f→∃f0,b=.arr n k f0):=by
      split at hb
      ·split at hb
       ·cases hb
       ·rename_i hna
        simp only[Option.some.injEq,Prod.mk.injEq]at hb
        obtain⟨rfl,rfl,rfl,rfl⟩:=hb
        exact⟨rfl,rfl,rfl,rfl,fun n k f hv=>absurd hv (hna n k f)⟩
      ·rename_i pa' hne
       simp only[Option.some.injEq,Prod.mk.injEq]at hb
       obtain⟨rfl,rfl,rfl,rfl⟩:=hb
       cases pa with
       | nil=>exact absurd rfl hne
       | cons s pa=>exact⟨rfl,rfl,rfl,rfl,(setp_top hs).1⟩
     obtain⟨rfl,rfl,rfl,rfl,harr⟩:=hb'
     simp only[Bool.and_eq_true]at hq
     obtain⟨⟨⟨q1,q2⟩,q3⟩,q4⟩:=hq
     have q1:=Nat.eq_of_beq_eq_true q1
     have q2:=Nat.eq_of_beq_eq_true q2
     have q4:0 < u'.size:=Nat.le_of_ble_eq_true q4
     obtain⟨h1,h2⟩:=X.ev hx hc.1
     obtain⟨h3,h4⟩:=X.ev hy hc.2.1
     have hi:h' i=h i:=hrd i (.head _)
     obtain⟨b0,w',ha,hrun,R⟩:=X.rep.store (hi.trans hh) hn hc.2.2 q1 q4 hs h3 harr
     obtain⟨ti,d,hti,hts,hd,hfit⟩:=X.tab.ty t _ hK
     refine⟨β,w',undef,.inr ⟨?_,rfl⟩,fun _ _=>rfl,R,trivial,rfl⟩
     have hsz:¬((u.cl β).toArray.size≠ti.size):=by rw[List.size_toArray,zy_];omega
     have hsv:(storeVar t (b0.add (offp pa)) (u.den β)).run P w=.ok () w':=by
      unfold storeVar
      rw[cells_plain q3,Sem.run_bind,x4_ hti,Result.andThen_ok]
      simp only[hsz,if_false,Sem.run_bind]
      have:=hrun P
      simp[this]
     simp[execOp,Instr.storeAt,h2,h4,SV.den,ha,Instr.sureAddr,hsv]
   ·cases hb
  ·cases hb
 ·cases hb
end
end Go.Proofs.Ytmljmabbopkpiaa.Vm
namespace Go.Proofs.Ytmljmabbopkpiaa.Vm
open Go.RowKit
theorem flat_const (L:List Value)(k:Nat)(hk:L.length=k):∀n,(List.range n).flatMap (fun _=>L)=(List.range (n*k)).map fun i=>L.toArray[i % k]!
 | 0=>by simp
 | n+1=>by
  rw[List.range_succ,List.flatMap_append,flat_const L k hk n,Nat.succ_mul,List.range_add,List.map_append,List.map_map]
  congr 1
  simp only[List.flatMap_cons,List.flatMap_nil,List.append_nil]
  apply List.ext_getElem
  ·simp[hk]
  ·intro i h1 h2
   have hi:i < k:=by omega
   have e:(n*k+i) % k=i:=by rw[Nat.add_comm,Nat.add_mul_mod_self_right,Nat.mod_eq_of_lt hi]
   simp only[List.getElem_map,List.getElem_range,Function.comp]
   rw[e]
   simp[h1]
theorem cl_arr_const {β : Env}{z:SV}{n k:Nat}(hz:z.size=k):(SV.arr n k fun _=>z).cl β =(List.range (n*k)).map fun i=>(z.cl β).toArray[i % k]! := by
 rw[cl_arr,fit_eq (by rw[zy_,hz])]
 exact flat_const _ k (by rw[zy_,hz]) n
theorem cl_agg_arr {β : Env}{k:Nat}{z:SV}:∀{l:List SV},(∀v∈l,v.size=k)→clL β l=(SV.arr l.length k fun i=>l.getD i z).cl β
 | [],_=>by rw[cl_arr];rfl
 | x::l,hl=>by
  have ih:=cl_agg_arr (β:=β) (z:=z) (l:=l) fun v hv=>hl v (.tail _ hv)
  rw[cl_arr]at ih ⊢
  rw[yk_,ih,List.length_cons,List.range_succ_eq_map,List.flatMap_cons,List.flatMap_map,List.getD_cons_zero,fit_eq (by rw[zy_,hl x (.head _)])]
  rfl
theorem clL_replicate {β : Env}(z:SV):∀n,clL β (List.replicate n z)=(List.range n).flatMap fun _=>z.cl β
 | 0=>rfl
 | n+1=>by rw[List.replicate_succ,yk_,clL_replicate z n,List.range_succ_eq_map,List.flatMap_cons,List.flatMap_map]
section
variable {P:Program} {T:Tab} {w0 w:World} {M:Nat→Prop} {β : Env} {φ : Fr} {h h':HM} {a:Act}
theorem sl_new {m k n g z cp:Nat}(hn:n≤cp):(SV.sl m m [] k 0 n none).den (setE β m (some ⟨g,z,none⟩,cp))=.slice (some ⟨g,z,none⟩) n cp:=by
 have:(⟨g,z,none⟩:Addr).add 0=⟨g,z,none⟩:=by simp[Addr.add]
 have e:max n cp=cp:=by omega
 simp[SV.den,z4_,offp,this,e]
theorem stable_new {m k s n:Nat}{c:Option Nat}{pa:List Stp}{b:HB}{h:HM}(hb:b.born=true:=by rfl):zb_ (wrs h [(m,b)]) (.sl m m pa k s n c):=by
 have:(wrs h [(m,b)] m).born=true:=by show (upd h m b m).born=true;rw[z1_];exact hb
 exact⟨this,this⟩
theorem make_ok (X:Ctx P T w0 M β h' w φ a){o:Oper}{t:TypeId}{x y:Operand}{c:Prop}{v:SV}{rd:List Nat}{wr:List (Nat×HB)}{m:Nat}(ho:o.op=.makeSlice t x y)(hb:makeV T φ m t x y=some (c,v,rd,wr))(hc:c)
  (hm:h' m=.dead):Does P a o w0 M β h' w v wr:=by
 obtain⟨dst,op,ty,pos,after,gd⟩:=o
 simp only at ho
 subst ho
 unfold makeV at hb
 split at hb
 ·rename_i e k b c1 lv c2 cv hK hx hy
  split at hb
  ·rename_i d1 k1 n d2 k2 cp z hn hcp hz
   cases hq:Nat.beq z.size k with
   | false=>rw[hq]at hb;cases hb
   | true=>
    rw[hq]at hb
    simp only[cond_true,Option.some.injEq,Prod.mk.injEq]at hb
    obtain⟨rfl,rfl,rfl,rfl⟩:=hb
    have hq:=Nat.eq_of_beq_eq_true hq
    obtain⟨hc1,hc2,hd1,hd2,hle,hby,h63⟩:=hc
    obtain⟨h1,h2⟩:=X.ev hx hc1
    obtain⟨h3,h4⟩:=X.ev hy hc2
    rw[asN_den hn hd1]at h2
    rw[asN_den hcp hd2]at h4
    obtain⟨ti,d,hti,hts,hd,ei,rfl,hei,hes,heb,hpos⟩:=X.tab.ty t _ hK
    obtain⟨hp,hst,i,hi,hs,hden⟩:=X.tab.zero e z hz
    have hie:i=ei:=by rw[hi]at hei;injection hei
    subst hie
    have R:=X.rep.alloc m hm cp e (.arr cp k fun _=>z) (fun _=>hst _ X.rep.nil0) (fun n k f hv=>by injection hv with h _ _;exact h.symm)
    refine⟨_,_,_,.inl ?_,yd_ hm,R,?_,rfl⟩
    ·rw[sl_new hle]
     have hr:=run_make (P:=P) w t e i (z.den β) hd hi (hden β X.rep.nil) k1 k2 (n:Int) (cp:Int) (by omega) (by omega) (by rw[heb];have h9:((b*cp:Nat):Int)≤281474976710656:=(by omega);rwa [Int.natCast_mul]at h9) (by omega)
     have hcells:madeCells (z.den β).cells ((cp:Int).toNat*i.size)=((SV.arr cp k fun _=>z).cl β).toArray:=by
      rw[cl_arr_const hq,madeCells,cells_plain hp,Int.toNat_natCast,hes]
      apply Array.ext'
      simp only[Array.toList_map,Array.toList_range,List.size_toArray,zy_,hq]
     rw[hcells]at hr
     simp[execOp,h2,h4,hr]
    ·exact stable_new
  ·cases hb
 ·cases hb
theorem stableL_replicate {z:SV}{n:Nat}(hz:zb_ h z):zh_ h (List.replicate n z):=yx_.2 fun v hv=>by rw[(List.mem_replicate.1 hv).2];exact hz
theorem buildSlice_ok (X:Ctx P T w0 M β h' w φ a){o:Oper}{t:TypeId}{len:Nat}{ps:Array (Nat×Operand)}{c:Prop}{v:SV}{rd:List Nat}{wr:List (Nat×HB)}{m:Nat}(ho:o.op=.buildSlice t len ps)(hb:buildSliceV T φ m t len ps.toList=some (c,v,rd,wr))(hc:c)
  (hm:h' m=.dead):Does P a o w0 M β h' w v wr:=by
 obtain⟨dst,op,ty,pos,after,gd⟩:=o
 simp only at ho
 subst ho
 unfold buildSliceV at hb
 split at hb
 ·rename_i e k b hK
  split at hb
  ·rename_i z hz
   split at hb
   ·rename_i c' l hf
    cases hq:Nat.beq z.size k && Nat.beq l.length len && l.all (fun v=>Nat.beq v.size k) && Nat.ble (len*k) 16777216 with
    | false=>rw[hq]at hb;cases hb
    | true=>
     rw[hq]at hb
     simp only[cond_true,Option.some.injEq,Prod.mk.injEq]at hb
     obtain⟨rfl,rfl,rfl,rfl⟩:=hb
     simp only[Bool.and_eq_true]at hq
     obtain⟨⟨⟨q1,q2⟩,q3⟩,q4⟩:=hq
     have q1:=Nat.eq_of_beq_eq_true q1
     have q2:=Nat.eq_of_beq_eq_true q2
     have q4:=Nat.le_of_ble_eq_true q4
     have q3:∀v∈l,v.size=k:=fun v hv=>Nat.eq_of_beq_eq_true (List.all_eq_true.1 q3 v hv)
     obtain⟨ti,d,hti,hts,hd,ei,rfl,hei,hes,heb,hpos⟩:=X.tab.ty t _ hK
     obtain⟨hp,hst,i,hi,hs,hden⟩:=X.tab.zero e z hz
     have hie:i=ei:=by rw[hi]at hei;injection hei
     subst hie
     have hzs:=hst _ X.rep.nil0
     obtain ⟨k1, k2, k3⟩ := fillV_ok (place := fun j => some (j * k, k)) X (fun j s n hj=>by
      simp only[Option.some.injEq,Prod.mk.injEq]at hj
      obtain⟨rfl,rfl⟩:=hj
      rfl) hf hc (by simp only[zb_];exact stableL_replicate hzs)
     have hstab:zb_ h' (.arr len k fun i=>l.getD i z):=by
      simp only[zb_]at k1 ⊢
      intro j
      rw[List.getD_eq_getElem?_getD]
      cases hj:l[j]? with
      | none=>exact hzs
      | some u=>exact yx_.1 k1 _ (List.mem_of_getElem? hj)
     have R:=X.rep.alloc m hm len e (.arr len k fun i=>l.getD i z) hstab (fun n k f hv=>by injection hv with h _ _;exact h.symm)
     refine⟨_,_,_,.inl ?_,yd_ hm,R,stable_new,rfl⟩
     rw[sl_new (Nat.le_refl _)]
     have hcl:(SV.arr len k fun i=>l.getD i z).cl β = clL β l:=by rw[←q2];exact(cl_agg_arr q3).symm
     have hzc:((Array.range (len*i.size)).map ((if len*i.size=0 then(#[]:Array Value)else(z.den β).cells)[· % (if len*i.size=0 then(#[]:Array Value)else(z.den β).cells).size]!))=((SV.agg (List.replicate len z)).cl β).toArray:=by
      rw[cl_agg,clL_replicate,flat_const _ k (by rw[zy_,q1]),hes]
      by_cases h0:len*k=0
      ·simp[h0]
      ·simp only[h0,if_false,cells_plain hp,List.size_toArray,zy_,q1]
       apply Array.ext'
       simp
     rw[cl_agg (l:=l)]at k3
     have k3':Instr.fill (fun j=>some (j*i.size,i.size)) ((Array.range (len*i.size)).map ((if len*i.size=0 then(#[]:Array Value)else(z.den β).cells)[· % (if len*i.size=0 then(#[]:Array Value)else(z.den β).cells).size]!)) (ps.map fun (i,x)=>(i,a.eval x)).toList=some (clL β l).toArray:=by
      rw[hzc,hes]
      simpa using k3
     have hbig:¬(16777216 < len*i.size):=by rw[hes];omega
     rw[hcl]
     by_cases h0:len*i.size=0
     ·simp only[h0,if_true]at k3'
      simp[execOp,Instr.buildSlice,run_underlying hd,sizeOf,typeInfo,hi,h0,newRow]
      simp at k3'
      simp[k3']
     ·simp only[h0,if_false]at k3'
      simp[execOp,Instr.buildSlice,run_underlying hd,sizeOf,typeInfo,hi,h0,newRow,zeroValue,hden β X.rep.nil,hbig]
      simp only[Array.toList_map]at k3'
      simp[k3']
   ·cases hb
  ·cases hb
 ·cases hb
theorem evO_spec (X:Ctx P T w0 M β h' w φ a){d:Nat}{x:Option Operand}{c:Prop}{n:Nat}(he:evO φ d x=some (c,n))(hc:c):(x=none∧n=d)∨∃y k,x=some y∧a.eval y=.int k (n:Int):=by
 cases x with
 | none=>simp only[evO,Option.some.injEq,Prod.mk.injEq]at he;exact .inl ⟨rfl,he.2.symm⟩
 | some y=>
  simp only[evO]at he
  split at he
  ·rename_i c1 v hy
   split at he
   ·rename_i e k m hm
    simp only[Option.some.injEq,Prod.mk.injEq]at he
    obtain⟨rfl,rfl⟩:=he
    obtain⟨h1,h2⟩:=X.ev hy hc.1
    exact .inr ⟨y,k,rfl,by rw[h2,asN_den hm hc.2]⟩
   ·cases he
  ·cases he
theorem run_sliceBounds {s:Bool}{n cp l r:Nat}{lo hi:Option Value}(hlo:(lo=none∧l=0)∨∃k,lo=some (.int k (l:Int)))(hhi:(hi=none∧r=n)∨∃k,hi=some (.int k (r:Int)))(h1:l≤r)(h2:r≤cp) :
  (Instr.sliceBounds s n cp lo hi none).run P w=.ok (l,r,cp) w:=by
 rcases hlo with ⟨rfl,rfl⟩|⟨k1,rfl⟩<;>rcases hhi with ⟨rfl,rfl⟩|⟨k2,rfl⟩<;>simp[Instr.sliceBounds,Instr.sliceBound,asIntOf,h1,h2]
theorem slice_ok (X:Ctx P T w0 M β h' w φ a){o:Oper}{t:TypeId}{x:Operand}{lo hi:Option Operand}{c:Prop}{v:SV}{rd:List Nat}{wr:List (Nat×HB)}{m:Nat}(ho:o.op=.slice t x lo hi none)(hb:sliceV T φ m t x lo hi=some (c,v,rd,wr))(hc:c)
  (hm:h' m=.dead):Does P a o w0 M β h' w v wr:=by
 obtain⟨dst,op,ty,pos,after,gd⟩:=o
 simp only at ho
 subst ho
 unfold sliceV at hb
 have birth:∀(e:Option Addr×Nat),Rep w0 M (setE β m e) (upd h' m .gone) w:=fun e=>X.rep.birth m hm e .gone trivial rfl trivial (fun a hm _=>by cases hm) (fun v a hv=>by cases hv)
 have opt:∀{d:Nat} {x:Option Operand} {n:Nat},((x=none∧n=d)∨∃y k,x=some y∧a.eval y=.int k (n:Int))→(x.map a.eval=none∧n=d)∨∃k,x.map a.eval=some (.int k (n:Int)):=by
  rintro d x n (⟨rfl,rfl⟩|⟨y,k,rfl,hy⟩)
  ·exact .inl ⟨rfl,rfl⟩
  ·exact .inr ⟨k,by simp[hy]⟩
 split at hb
 ·rename_i e k b c1 z i pa k' s n cp hK hx
  split at hb
  ·rename_i d l e' r hl hr
   cases hq:Nat.beq k k' with
   | false=>rw[hq]at hb;cases hb
   | true=>
    rw[hq]at hb
    simp only[cond_true,Option.some.injEq,Prod.mk.injEq]at hb
    obtain⟨rfl,rfl,rfl,rfl⟩:=hb
    have hq:=Nat.eq_of_beq_eq_true hq
    subst hq
    obtain⟨hc1,hd,he',hlr,hrn⟩:=hc
    obtain⟨h1,h2⟩:=X.ev hx hc1
    obtain⟨ti,dd,hti,hts,hdd,ei,rfl,hei,hes,heb,hpos⟩:=X.tab.ty t _ hK
    have hcap:r≤max n (cp.getD (β z).2):=by omega
    have hbnd:=run_sliceBounds (P:=P) (w:=w) (s:=true) (opt (evO_spec X hl hd)) (opt (evO_spec X hr he')) hlr hcap
    let base:=if n=0 then(β z).1 else some (((β i).1.getD ⟨0,0,none⟩).add (offp pa+s*k))
    let cap:=max n (cp.getD (β z).2)
    let base':=if cap=l then base else base.map (·.add (l*k))
    have him:i≠m:=by rintro rfl;have:=h1.2;rw[hm]at this;cases this
    refine⟨setE β m (base',cap - l),w,_,.inl ?_,yd_ hm,birth _,?_,rfl⟩
    ·have hrun:(Instr.sliceAt t (a.eval x) (lo.map a.eval) (hi.map a.eval) none).run P w=.ok (.slice base' (r - l) (cap - l)) w:=by
      rw[h2]
      simp[Instr.sliceAt,Instr.slice,run_underlying hdd,SV.den,hbnd,x4_ hei,hes,base',base,cap]
     have hden:(SV.sl m i pa k (s+l) (r - l) none).den (setE β m (base',cap - l))=.slice base' (r - l) (cap - l):=by
      simp only[SV.den,z4_,xg_ him,Option.getD_none]
      have hmx:max (r - l) (cap - l)=cap - l:=by omega
      rw[hmx]
      by_cases h0:r - l=0
      ·simp[h0]
      ·have hn0:n≠0:=by omega
       have hcl:cap≠l:=by omega
       simp[h0,base',base,hcl,hn0,add_add,Nat.add_mul,Nat.add_assoc]
     rw[hden]
     simp[execOp,hrun]
    ·exact d10_
  ·cases hb
 ·rename_i e n k g c1 i pa hK hx
  split at hb
  ·rename_i d l e' r hl hr
   simp only[Option.some.injEq,Prod.mk.injEq]at hb
   obtain⟨rfl,rfl,rfl,rfl⟩:=hb
   obtain⟨hc1,hd,he',hlr,hrn⟩:=hc
   obtain⟨h1,h2⟩:=X.ev hx hc1
   obtain⟨ti,dd,hti,hts,hdd,rfl,⟨ei,ed,hei,hes,hed,hea⟩,hpos⟩:=X.tab.ty t _ hK
   have hbnd:=run_sliceBounds (P:=P) (w:=w) (s:=false) (opt (evO_spec X hl hd)) (opt (evO_spec X hr he')) hlr hrn
   have him:i≠m:=by rintro rfl;have:(h' i).born=true:=h1;rw[hm]at this;cases this
   let b0:=((β i).1.getD ⟨0,0,none⟩).add (offp pa)
   let base':=if n=l then b0 else b0.add (l*k)
   refine⟨setE β m (some base',n - l),w,_,.inl ?_,yd_ hm,birth _,?_,rfl⟩
   ·have hrun:(Instr.sliceAt t (a.eval x) (lo.map a.eval) (hi.map a.eval) none).run P w=.ok (.slice (some base') (r - l) (n - l)) w:=by
     rw[h2]
     simp[Instr.sliceAt,run_underlying hdd,SV.den,Instr.sureAddr,hbnd,x4_ hei,hes,base',b0]
    have hden:(SV.sl m i pa k l (r - l) none).den (setE β m (some base',n - l))=.slice (some base') (r - l) (n - l):=by
     simp only[SV.den,z4_,xg_ him,Option.getD_none]
     have hmx:max (r - l) (n - l)=n - l:=by omega
     rw[hmx]
     by_cases h0:r - l=0
     ·simp[h0]
     ·have hcl:n≠l:=by omega
      simp[h0,base',b0,hcl,add_add]
    rw[hden]
    simp[execOp,hrun]
   ·have e1:(wrs h' [(m,HB.gone)] m).born=true:=by show (upd h' m _ m).born=true;rw[z1_];rfl
    have e2:(wrs h' [(m,HB.gone)] i).born=true:=by show (upd h' m _ i).born=true;rw[yp_ him];exact h1
    exact⟨e1,e2⟩
  ·cases hb
 ·cases hb
end
end Go.Proofs.Ytmljmabbopkpiaa.Vm
namespace Go.Proofs.Ytmljmabbopkpiaa.Vm
open Go.RowKit
def srcV (h:HM)(k:Nat)(z0:SV):SV→Option (Prop×Nat×(Nat→SV)×List Nat)
 | .sl z i pa k' s n cp=>match i with
  | 0=>some (n=0,n,fun _=>z0,[])
  | i+1=>match (h (i+1)).val with
   | some v=>match nav v pa with
    | some (d,.arr n' k'' f)=>bif Nat.beq k k'' && Nat.beq k k' then some (d∧s+n≤n',n,fun q=>f (s+q),[i+1])else none
    | _=>none
   | none=>none
 | _=>none
def appendV (T:Tab)(φ : Fr)(h:HM)(m:Nat)(t tx:TypeId)(x y:Operand):Option Eff:=
 match T.ty t,T.ty tx,ev φ x,ev φ y with
 | some (.slice e k b),some (.slice _ _ _),some (c1,.sl z i pa k' s n cp),some (c2,yv)=>match T.zero e with
  | some z0=>match srcV h k z0 yv with
   | some (d,j,g,rd)=>bif Nat.beq z0.size k then match i with
     | 0=>match cp with
      | some 0=>bif Nat.beq z 0 then some (c1∧c2∧d∧n=0∧j*b≤140737488355328∧j≤9223372036854775807,.sl m m [] k 0 j none,rd,[(m,.own e (.arr j k g) false)])else none
      | _=>none
     | i+1=>match h (i+1),pa,cp with
      | .own e' (.arr n' k'' f) ex,[],none=>bif Nat.beq e e' && Nat.beq k k'' && Nat.beq z (i+1) && Nat.beq s 0 then
        some (c1∧c2∧d∧n≤n'∧(n+j)*b≤140737488355328∧n+j≤9223372036854775807,.sl m m [] k 0 (n+j) none,(i+1)::rd,
         [(i+1,.gone),(m,.own e (.arr (n+j) k fun q=>SV.ite (decide (q < n)) (f q) (g (q - n))) false)])else none
      | _,_,_=>none
    else none
   | none=>none
  | none=>none
 | _,_,_,_=>none
def copyV (T:Tab)(φ : Fr)(h:HM)(t tx:TypeId)(x y:Operand):Option Eff:=
 match T.ty t,T.ty tx,ev φ x,ev φ y with
 | some (.slice e k b),some (.slice _ _ _),some (c1,.sl z i pa k' s n cp),some (c2,.sl z2 i2 pa2 k2 s2 n2 cp2)=>match T.zero e with
  | some z0=>match srcV h k z0 (.sl z2 i2 pa2 k2 s2 (min n2 n) cp2)with
   | some (d,j,g,rd)=>match h i with
    | .own t' (.arr N k'' f) ex=>bif Nat.beq k k'' && Nat.beq k k' && pa.isEmpty then
      some (c1∧c2∧d∧s+n≤N∧j=min n2 n,.nat .i64 j,i::rd,[(i,.own t' (.arr N k fun q=>SV.ite (decide (s≤q) && decide (q < s+j)) (g (q - s)) (f q)) ex)])else none
    | _=>none
   | none=>none
  | none=>none
 | _,_,_,_=>none
theorem bif_some' {α : Type}{b:Bool}{x:Option α}{y:α}(h:(bif b then x else none)=some y):b=true∧x=some y:=by
 cases b with
 | true=>exact⟨rfl,h⟩
 | false=>cases h
section
variable {P:Program} {T:Tab} {w0 w:World} {M:Nat→Prop} {β : Env} {φ : Fr} {h h':HM} {a:Act}
def zx_ (β : Env)(k n:Nat)(f:Nat→SV):List Value:=(List.range n).flatMap fun q=>fit k ((f q).cl β)
theorem zv_ {k n:Nat}{f:Nat→SV}:(zx_ β k n f).length=n*k:=flatMap_fit_length n k _
theorem elems_add {k n j:Nat}{f g:Nat→SV}:zx_ β k (n+j) (fun q=>SV.ite (decide (q < n)) (f q) (g (q - n)))=zx_ β k n f++zx_ β k j g:=by
 unfold zx_
 rw[List.range_add,List.flatMap_append,List.flatMap_map]
 congr 1
 ·have:∀q∈List.range n,fit k ((SV.ite (decide (q < n)) (f q) (g (q - n))).cl β)=fit k ((f q).cl β):=fun q hq=>by
   have:=List.mem_range.1 hq
   rw[x1_];simp[this]
  rw[List.flatMap_def,List.flatMap_def,List.map_congr_left this]
 ·have:(fun q=>fit k ((SV.ite (decide (n+q < n)) (f (n+q)) (g (n+q - n))).cl β))=fun q=>fit k ((g q).cl β):=funext fun q=>by
   have:¬(n+q < n):=by omega
   rw[x1_];simp[this]
  exact congrArg (fun F=>(List.range j).flatMap F) this
theorem elems_split {k n d:Nat}{f:Nat→SV}:zx_ β k (n+d) f=zx_ β k n f++zx_ β k d (fun q=>f (n+q)):=by
 unfold zx_;rw[List.range_add,List.flatMap_append,List.flatMap_map]
theorem cl_arr' {n k:Nat}{f:Nat→SV}:(SV.arr n k f).cl β = zx_ β k n f:=cl_arr n k f
theorem elems_sane {k n:Nat}{f:Nat→SV}:∀u∈zx_ β k n f,u.oneCell'=true:=fun u hu=>sane_oneCell (cl_sane (SV.arr n k f) u (by rw[cl_arr'];exact hu))
theorem elems_take {k n n':Nat}{f:Nat→SV}(h:n≤n'):(zx_ β k n' f).take (n*k)=zx_ β k n f:=by
 obtain⟨d,rfl⟩:=Nat.le.dest h
 rw[elems_split,←zv_ (β:=β) (k:=k) (n:=n) (f:=f),List.take_left]
theorem srcV_ok (X:Ctx P T w0 M β h' w φ a){k:Nat}{z0 v:SV}{d:Prop}{j:Nat}{g:Nat→SV}{rd:List Nat}{e':TypeId}{kk bb:Nat}{tx:TypeId}(hK:T.ty tx=some (.slice e' kk bb))(hs:srcV h k z0 v=some (d,j,g,rd))(hd:d)
  (hrd:∀i∈rd,h' i=h i) (hv:zb_ h' v) (hz0:zb_ h' z0) (hk:0 < k) :
  Src P k tx (v.den β) j (zx_ β k j g) w∧(∀q,zb_ h' (g q)):=by
 obtain⟨ti,dd,hti,hts,hdd,ei,rfl,_⟩:=X.tab.ty tx _ hK
 unfold srcV at hs
 split at hs
 ·rename_i z i pa k' s n cp
  split at hs
  ·simp only[Option.some.injEq,Prod.mk.injEq]at hs
   obtain⟨rfl,rfl,rfl,rfl⟩:=hs
   refine⟨?_,fun _=>hz0⟩
   subst hd
   simp only[SV.den,if_true]
   cases hb:(β z).1 with
   | none=>exact Src.ofNil w hdd _
   | some ad=>exact Src.ofSlice w hdd ad 0 _ [] (by simp) (fun j u hj=>by cases hj) (fun u hu=>by cases hu)
  ·rename_i i
   split at hs
   ·rename_i v0 hv0
    split at hs
    ·rename_i d0 n' k'' f hn
     cases hq:Nat.beq k k'' && Nat.beq k k' with
     | false=>rw[hq]at hs;cases hs
     | true=>
      rw[hq]at hs
      simp only[cond_true,Option.some.injEq,Prod.mk.injEq]at hs
      obtain⟨rfl,rfl,rfl,rfl⟩:=hs
      rw[Bool.and_eq_true]at hq
      have hq1:=Nat.eq_of_beq_eq_true hq.1
      subst hq1
      have hq2:=Nat.eq_of_beq_eq_true hq.2
      subst hq2
      have hi:h' (i+1)=h (i+1):=hrd _ (.head _)
      have hB:=X.rep.blk (i+1)
      have hS:=X.rep.st (i+1)
      rw[hi]at hB hS
      have hS2:zb_ h' v0:=by
       cases hh:h (i+1)with
       | own t' v' ex=>rw[hh]at hS hv0;injection hv0 with hu;subst hu;exact hS
       | ro v'=>rw[hh]at hS hv0;injection hv0 with hu;subst hu;exact hS
       | raw o=>rw[hh]at hv0;cases hv0
       | gone=>rw[hh]at hv0;cases hv0
       | dead=>rw[hh]at hv0;cases hv0
      have hSf:=zb_.of_nav hS2 hn
      simp only[zb_]at hSf
      refine⟨?_,fun q=>hSf (s+q)⟩
      by_cases h0:n=0
      ·subst h0
       simp only[SV.den,if_true]
       cases hb:(β z).1 with
       | none=>exact Src.ofNil w hdd _
       | some ad=>exact Src.ofSlice w hdd ad 0 _ [] (by simp) (fun j u hj=>by cases hj) (fun u hu=>by cases hu)
      ·have hpos:0 < (SV.arr n' k f).size:=by
        simp only[SV.size]
        exact Nat.mul_pos (by omega) hk
       obtain⟨ad,hb,hcell⟩:=cells_at hB hv0 hn hd.1 hpos
       rw[den_sl_pos h0,hb]
       refine Src.ofSlice w hdd _ n _ _ zv_ (fun q u hu=>?_) elems_sane
       have e1:(ad.add (offp pa)).add (s*k+q)=ad.add (offp pa+s*k+q):=by rw[add_add,Nat.add_assoc]
       simp only[Option.getD_some]
       rw[add_add,←e1]
       refine hcell _ _ ?_
       rw[cl_arr']
       have e2:zx_ β k n' f=zx_ β k s f++(zx_ β k n (fun q=>f (s+q))++zx_ β k (n' - s - n) (fun q=>f (s+n+q))):=by
        have:n'=s+(n+(n' - s - n)):=by omega
        conv=>lhs;rw[this]
        rw[elems_split,elems_split]
        simp only[Nat.add_assoc]
       rw[e2,List.getElem?_append_right (by rw[zv_];omega),zv_,Nat.add_sub_cancel_left,List.getElem?_append_left]
       ·exact hu
       ·rcases Nat.lt_or_ge q (zx_ β k n fun q=>f (s+q)).length with h'|h'
        ·exact h'
        ·rw[List.getElem?_eq_none h']at hu;cases hu
    ·cases hs
   ·cases hs
 ·cases hs
theorem run_append_in {t tx ty e:TypeId}{i:TypeInfo}(ht:P.underlying t=some (.slice e))(hi:P.info? e=some i){base:Option Addr}{n cap j:Nat}{x:Value}{news:List Value}(hs:Src P i.size tx x j news w)(hroom:n+j≤cap) :
  (Builtin.append_ #[t,tx] ty #[.slice base n cap,x]).run P w=((match base with|some a=>storeCells (a.add (n*i.size)) news|none=>pure ()).run P w).andThen fun _ w'=>.ok (.slice base (n+j) cap) w':=by
 rcases hs.kind with ⟨e',hk⟩|hk<;>cases base<;>simp[Builtin.append_,run_underlying ht,run_underlying hk,sizeOf,typeInfo,hi,hs.len,hroom,hs.cells]
theorem Rep.born (R:Rep w0 M β h' w){m:Nat}(hm:h' m=.dead){e:TypeId}{cap:Nat}{v:SV}{tl:List Value}(hst:zb_ h' v)(hn:∀n k f,v=.arr n k f→n≤cap∧(v.cl β ++ tl).length=cap*k) :
  Rep w0 M (setE β m (some ⟨w.heap.size,0,none⟩,cap)) (upd h' m (.own e v false)) (w.drew.alloc (.cells (v.cl β ++ tl).toArray e)):=by
 have R':=R.keep (w':=w.drew.alloc (.cells (v.cl β ++ tl).toArray e)) rfl rfl rfl (by simp) fun g hg=>Below.heap_alloc w.drew _ g hg
 refine R'.birth m hm _ _ (zb_.upd hst rfl) rfl (.inl ⟨w.heap.size,[],_,by rw[z4_];rfl,heap_alloc_new w.drew _,⟨tl,by rw[List.nil_append,←hst.cl (yd_ hm)],fun h=>by cases h⟩,fun n k f hv=>?_⟩) (fun a _ ha=>?_) (fun v a hv=>by cases hv)
 ·rw[z4_,List.size_toArray,List.length_nil,Nat.zero_add]
  exact⟨(hn n k f hv).1,Nat.le_of_eq (hn n k f hv).2.symm⟩
 ·injection ha with ha
  subst ha
  exact⟨.inl R.size,by simp,fun i a' hc ha'=>Nat.ne_of_lt (R.lt i a' hc ha')⟩
theorem upd_upd (h:HM)(i:Nat)(b c:HB):upd (upd h i b) i c=upd h i c:=by funext j;unfold upd;split<;>simp_all
theorem upd_comm {h:HM}{i j:Nat}{b c:HB}(hn:i≠j):upd (upd h i b) j c=upd (upd h j c) i b:=by funext k;unfold upd;split<;>split<;>simp_all
theorem appended_grow (R:Rep w0 M β h' w){t tx ty e k b m j n cap:Nat}{z0:SV}{base:Option Addr}{x:Value}{f g:Nat→SV}{i:TypeInfo}(ht:P.underlying t=some (.slice e))(hi:P.info? e=some i)(hz:i.zero=some (z0.den β))(hp:z0.plain=true)(hzk:z0.size=k)(hik:i.size=k)(hib:i.bytes=b)
  (hold:(Builtin.firstCells k n (.slice base n cap)).run P w.drew=.ok (zx_ β k n f).toArray w.drew) (hs:Src P k tx x j (zx_ β k j g) w) (hm:h' m=.dead) (hf:∀q,zb_ h' (f q)) (hg:∀q,zb_ h' (g q))
  (hgrow:cap < n+j) (hb:(n+j)*b≤140737488355328) (h63:n+j≤9223372036854775807) (F:Nat→SV) (hF:zx_ β k (n+j) F=zx_ β k n f++zx_ β k j g) (hFs:∀q,zb_ h' (F q)) :
  ∃β' w' u,(Builtin.append_ #[t,tx] ty #[.slice base n cap,x]).run P w=.ok u w'∧β'=setE β m (β' m)∧Rep w0 M β' (upd h' m (.own e (.arr (n+j) k F) false)) w'∧u=(SV.sl m m [] k 0 (n+j) none).den β':=by
 subst hik hib
 have hr:=run_append_grow_src (P:=P) w t tx ty e i _ ht hi hz base n cap _ hold x j _ hs hgrow (by omega) (growslice_fits hgrow hb)
 have hge:=grownCap_ge w (n+j) cap e
 have hcl:zx_ β i.size n f++zx_ β i.size j g=(SV.arr (n+j) i.size F).cl β:=by rw[cl_arr',hF]
 have R2 := R.born hm (e := e) (cap := grownCap w (n + j) cap e) (v := .arr (n + j) i.size F) (tl := (Builtin.zeroCells (z0.den β).cells (grownCap w (n + j) cap e - (n + j))).toList) (by simp only [zb_]; exact hFs) (fun n' k' f' hv=>by
  injection hv with h1 h2 h3
  subst h1 h2
  refine⟨hge,?_⟩
  rw[List.length_append,zy_,Array.length_toList,size_zeroCells,cells_plain hp,List.size_toArray,zy_,hzk]
  simp only[SV.size]
  rw[←Nat.add_mul]
  congr 1
  omega)
 refine⟨setE β m (some ⟨w.heap.size,0,none⟩,grownCap w (n+j) cap e),_,_,hr,by rw[z4_],?_,by rw[sl_new hge]⟩
 have e1:((zx_ β i.size n f++zx_ β i.size j g).toArray++Builtin.zeroCells (z0.den β).cells (grownCap w (n+j) cap e - (n+j)))=((SV.arr (n+j) i.size F).cl β ++ (Builtin.zeroCells (z0.den β).cells (grownCap w (n+j) cap e - (n+j))).toList).toArray:=by
  rw[hcl];apply Array.ext';simp
 rw[e1]
 exact R2
theorem nothing (R:Rep w0 M β h' w){m e k:Nat}(hm:h' m=.dead){g:Nat→SV}(hg:∀q,zb_ h' (g q)):Rep w0 M (setE β m (none,0)) (upd h' m (.own e (.arr 0 k g) false)) w:=
 R.birth m hm _ _ (by simp only[HB.stable,zb_];exact fun q=>zb_.upd (hg q) rfl) rfl (.inr ⟨z4_ ..,rfl,k,g,rfl⟩) (fun a _ ha=>by cases ha) (fun v a hv=>by cases hv)
theorem append_ok (X:Ctx P T w0 M β h' w φ a){o:Oper}{cl:Call}{t tx:TypeId}{x y:Operand}{c:Prop}{v:SV}{rd:List Nat}{wr:List (Nat×HB)}{m:Nat}(ho:o.op=.call cl)(hcl:cl.callee=.builtin .append)(hts:cl.argTypes.toList=[t,tx])(has:cl.args.toList=[x,y])
  (hb:appendV T φ h m t tx x y=some (c,v,rd,wr)) (hc:c) (hrd:∀i∈rd,h' i=h i) (hm:h' m=.dead):Does P a o w0 M β h' w v wr:=by
 obtain⟨dst,op,ty,pos,after,gd⟩:=o
 simp only at ho
 subst ho
 obtain⟨callee,args,tys⟩:=cl
 simp only at hcl hts has
 subst hcl
 have e1:args = #[x,y]:=by apply Array.ext';simpa using has
 have e2:tys = #[t,tx]:=by apply Array.ext';simpa using hts
 subst e1 e2
 unfold appendV at hb
 split at hb
 ·rename_i e k b ex0 kx bx c1 z i pa k' s n cp c2 yv hK hKx hx hy
  split at hb
  ·rename_i z0 hz0
   split at hb
   ·rename_i d j g rd0 hsrc
    cases hq:Nat.beq z0.size k with
    | false=>rw[hq]at hb;cases hb
    | true=>
     rw[hq]at hb
     simp only[cond_true]at hb
     have hzk:=Nat.eq_of_beq_eq_true hq
     obtain⟨ti,dd,hti,hts',hdd,ei,rfl,hei,hes,heb,hpos⟩:=X.tab.ty t _ hK
     obtain⟨hp,hst,ie,hie,his,hden⟩:=X.tab.zero e z0 hz0
     have hee:ie=ei:=by rw[hie]at hei;injection hei
     subst hee
     have hzs:=hst h' X.rep.nil0
     have hzd:=hden β X.rep.nil
     split at hb
     ·-- to nothing
      split at hb
      ·cases hq:Nat.beq z 0 with
       | false=>rw[hq]at hb;cases hb
       | true=>
       have hz0':=Nat.eq_of_beq_eq_true hq
       subst hz0'
       rw[hq]at hb
       simp only[cond_true,Option.some.injEq,Prod.mk.injEq]at hb
       obtain⟨rfl,rfl,rfl,rfl⟩:=hb
       obtain⟨hc1,hc2,hd,hn0,hby,h63⟩:=hc
       obtain⟨h1,h2⟩:=X.ev hx hc1
       obtain⟨h3,h4⟩:=X.ev hy hc2
       subst hn0
       obtain⟨hS,hgs⟩:=srcV_ok X hKx hsrc hd hrd h3 hzs hpos
       have hb0:β 0=(none,0):=X.rep.nil
       have hbase:a.eval x=.slice none 0 0:=by rw[h2];simp[SV.den,hb0]
       by_cases hj:j=0
       ·subst hj
        have hr:=run_append_in (P:=P) (w:=w) (ty:=ty) (base:=none) (n:=0) (cap:=0) hdd hie (x:=yv.den β) (by rw[hes];exact hS) (Nat.le_refl _)
        have hr2:(Builtin.append_ #[t,tx] ty #[.slice none 0 0,yv.den β]).run P w=.ok (.slice none 0 0) w:=hr
        refine⟨setE β m (none,0),w,.slice none 0 0,.inl ?_,yd_ hm,nothing X.rep hm hgs,stable_new,?_⟩
        ·simp[execOp,resolve,invoke,builtin,hbase,h4,hr2]
        ·simp[SV.den,z4_]
       ·have hfirst:(Builtin.firstCells k 0 (.slice none 0 0)).run P w.drew=.ok (zx_ β k 0 fun _=>z0).toArray w.drew:=by
         simp[Builtin.firstCells,zx_]
        obtain⟨β',w',u,hr,hβ,R,hu⟩:=appended_grow X.rep (b:=b) (n:=0) (ty:=ty) (z0:=z0) (f:=fun _=>z0) (F:=g) hdd hie hzd hp hzk hes heb hfirst hS hm (fun _=>hzs) hgs (by omega) (by simpa using hby) (by simpa using h63) (by simp[zx_]) hgs
        rw[Nat.zero_add]at R hu
        refine⟨β',w',u,.inl ?_,?_,R,stable_new,hu⟩
        ·simp[execOp,resolve,invoke,builtin,hbase,h4,hr]
        ·rw[hβ];exact yd_ hm
      ·cases hb
     ·rename_i i
      split at hb
      ·rename_i e' n' k'' f ex hh
       cases hq:Nat.beq e e' && Nat.beq k k'' && Nat.beq z (i+1) && Nat.beq s 0 with
       | false=>rw[hq]at hb;cases hb
       | true=>
        rw[hq]at hb
        simp only[cond_true,Option.some.injEq,Prod.mk.injEq]at hb
        obtain⟨rfl,rfl,rfl,rfl⟩:=hb
        simp only[Bool.and_eq_true]at hq
        obtain⟨⟨⟨q1,q2⟩,q3⟩,q4⟩:=hq
        have q1:=Nat.eq_of_beq_eq_true q1
        have q2:=Nat.eq_of_beq_eq_true q2
        have q3:=Nat.eq_of_beq_eq_true q3
        have q4:=Nat.eq_of_beq_eq_true q4
        subst q1 q2 q3 q4
        obtain⟨hc1,hc2,hd,hnn,hby,h63⟩:=hc
        obtain⟨h1,h2⟩:=X.ev hx hc1
        obtain⟨h3,h4⟩:=X.ev hy hc2
        obtain⟨hS,hgs⟩:=srcV_ok X hKx hsrc hd (fun i hi=>hrd i (.tail _ hi)) h3 hzs hpos
        have hi':h' (i+1)=.own e (.arr n' k f) ex:=(hrd _ (.head _)).trans hh
        have hB:=X.rep.blk (i+1)
        have hSt:=X.rep.st (i+1)
        rw[hi']at hB hSt
        have hSf:∀q,zb_ h' (f q):=by simpa only[HB.stable,zb_]using hSt
        have him:i+1≠m:=by rintro rfl;rw[hm]at hi';cases hi'
        have hFs:∀q,zb_ h' (SV.ite (decide (q < n)) (f q) (g (q - n))):=fun q=>zb_.ite (hSf q) (hgs _)
        have hstab:∀b:HB,b.born=true→zb_ (wrs h' [(i+1,HB.gone),(m,b)]) (.sl m m [] k 0 (n+j) none):=fun b hb=>by
         have:(wrs h' [(i+1,HB.gone),(m,b)] m).born=true:=by show (upd (upd h' (i+1) .gone) m b m).born=true;rw[z1_];exact hb
         exact⟨this,this⟩
        have hmi:(h' (i+1)).mine=true:=by rw[hi'];rfl
        rcases hB with ⟨g0,pr0,cs,hba,hcs,⟨tl,htl,_⟩,hnc⟩|⟨hb0,_,k0,f0,hv0⟩
        ·obtain⟨hnc1,hnc2⟩:=hnc n' k f rfl
         have hbase:a.eval x=.slice (some ⟨g0,pr0.length,none⟩) n (β (i+1)).2:=by
          rw[h2]
          have:(⟨g0,pr0.length,none⟩:Addr).add 0=⟨g0,pr0.length,none⟩:=by simp[Addr.add]
          have hmx:max n (β (i+1)).2=(β (i+1)).2:=by omega
          simp[SV.den,hba,offp,this,hmx]
         have htk:cs.toList.take (pr0.length+n*k)=pr0++zx_ β k n f:=by
          rw[htl,List.take_length_add_append,cl_arr',List.take_append_of_le_length (by rw[zv_];exact Nat.mul_le_mul_right k hnn),elems_take hnn]
         by_cases hroom:n+j≤(β (i+1)).2
         ·have hr:=run_append_in (P:=P) (w:=w) (ty:=ty) (base:=some ⟨g0,pr0.length,none⟩) (n:=n) (cap:=(β (i+1)).2) hdd hie (x:=yv.den β) (by rw[hes];exact hS) hroom
          have hadd:(⟨g0,pr0.length,none⟩:Addr).add (n*k)=⟨g0,pr0.length+n*k,none⟩:=addr_addo ..
          have hlen:pr0.length+n*k+0+(zx_ β k j g).length≤cs.size:=by
           have:=Nat.mul_le_mul_right k hroom
           rw[Nat.add_mul]at this
           rw[zv_];omega
          have hst:=run_storeCells_at P g0 (pr0.length+n*k) e (zx_ β k j g) 0 cs w hcs hlen elems_sane
          rw[Nat.add_zero,htk]at hst
          simp only[hes,hadd,hst,Result.andThen_ok]at hr
          have hcl:zx_ β k n f++zx_ β k j g=(SV.arr (n+j) k fun q=>SV.ite (decide (q < n)) (f q) (g (q - n))).cl β:=by rw[cl_arr',elems_add]
          have R1:=X.rep.set (v':=.arr (n+j) k fun q=>SV.ite (decide (q < n)) (f q) (g (q - n))) (ex':=false) (cs:=(pr0++zx_ β k n f++zx_ β k j g++cs.toList.drop (pr0.length+n*k+(zx_ β k j g).length)).toArray) hi' hba (by simp only[zb_];exact hFs)
           (.inl ⟨g0,pr0,_,hba,setRow_heap w g0 cs _ e _ hcs,⟨cs.toList.drop (pr0.length+n*k+(zx_ β k j g).length),by rw[←hcl];simp only[List.append_assoc],fun h=>by cases h⟩,fun n2 k2 f2 hv=>by
            injection hv with h1 h2 h3
            subst h1 h2
            refine⟨hroom,?_⟩
            rw[List.size_toArray,List.length_append,List.length_append,List.length_append,zv_,zv_,List.length_drop,(Array.length_toList:cs.toList.length=cs.size)]
            rw[zv_]at hlen
            omega⟩)
          have hmi2:(upd h' (i+1) (.own e (.arr (n+j) k fun q=>SV.ite (decide (q < n)) (f q) (g (q - n))) false) (i+1)).mine=true:=by rw[z1_];rfl
          have R2:=R1.move (i+1) m hmi2 (by rw[yp_ (Ne.symm him)];exact hm)
          rw[z1_,upd_upd]at R2
          refine⟨_,_,_,.inl ?_,yd_ hm,R2,hstab _ rfl,rfl⟩
          have hu:(SV.sl m m [] k 0 (n+j) none).den (setE β m (β (i+1)))=.slice (some ⟨g0,pr0.length,none⟩) (n+j) (β (i+1)).2:=by
           have e0:β (i+1)=(some ⟨g0,pr0.length,none⟩,(β (i+1)).2):=Prod.ext hba rfl
           rw[e0]
           exact sl_new hroom
          rw[hu]
          simp[execOp,resolve,invoke,builtin,hbase,h4,hr]
         ·have hfirst:(Builtin.firstCells k n (.slice (some ⟨g0,pr0.length,none⟩) n (β (i+1)).2)).run P w.drew=.ok (zx_ β k n f).toArray w.drew:=by
           refine run_firstCells_some w.drew k n _ _ _ _ zv_ fun q u hq=>?_
           have hc0:w.drew.heap[g0]? = some (.cells cs e (0,0)):=hcs
           rw[cell_at w.drew g0 _ q cs e hc0,←Array.getElem?_toList]
           have hq2:(pr0++zx_ β k n f)[pr0.length+q]? = some u:=by
            rw[List.getElem?_append_right (by omega),Nat.add_sub_cancel_left];exact hq
           rw[←htk]at hq2
           rw[List.getElem?_take]at hq2
           split at hq2
           ·exact hq2
           ·cases hq2
          obtain⟨β',w',u,hr,hβ,R,hu⟩:=appended_grow X.rep (b:=b) (n:=n) (ty:=ty) (z0:=z0) (f:=f) (F:=fun q=>SV.ite (decide (q < n)) (f q) (g (q - n))) hdd hie hzd hp hzk hes heb hfirst hS hm hSf hgs (by omega) hby h63 elems_add hFs
          have R':=R.forget (i+1) (by rw[yp_ him,hi'];rfl)
          rw[upd_comm (Ne.symm him)]at R'
          refine⟨β',w',u,.inl ?_,?_,R',hstab _ rfl,hu⟩
          ·simp[execOp,resolve,invoke,builtin,hbase,h4,hr]
          ·rw[hβ];exact yd_ hm
        ·injection hv0 with e1 e2 e3
         subst e1
         have hn0:n=0:=by omega
         subst hn0
         have hbase:a.eval x=.slice none 0 0:=by rw[h2];simp[SV.den,hb0]
         by_cases hj:j=0
         ·subst hj
          have hr:=run_append_in (P:=P) (w:=w) (ty:=ty) (base:=none) (n:=0) (cap:=0) hdd hie (x:=yv.den β) (by rw[hes];exact hS) (Nat.le_refl _)
          have R':=(nothing X.rep (e:=e) (k:=k) hm hFs).forget (i+1) (by rw[yp_ him,hi'];rfl)
          rw[upd_comm (Ne.symm him)]at R'
          have hr2:(Builtin.append_ #[t,tx] ty #[.slice none 0 0,yv.den β]).run P w=.ok (.slice none 0 0) w:=hr
          refine⟨setE β m (none,0),w,.slice none 0 0,.inl ?_,yd_ hm,R',hstab _ rfl,?_⟩
          ·simp[execOp,resolve,invoke,builtin,hbase,h4,hr2]
          ·simp[SV.den,z4_]
         ·have hfirst:(Builtin.firstCells k 0 (.slice none 0 0)).run P w.drew=.ok (zx_ β k 0 f).toArray w.drew:=by
           simp[Builtin.firstCells,zx_]
          obtain⟨β',w',u,hr,hβ,R,hu⟩:=appended_grow X.rep (b:=b) (n:=0) (ty:=ty) (z0:=z0) (f:=f) (F:=fun q=>SV.ite (decide (q < 0)) (f q) (g (q - 0))) hdd hie hzd hp hzk hes heb hfirst hS hm hSf hgs (by omega) hby h63 elems_add hFs
          have R':=R.forget (i+1) (by rw[yp_ him,hi'];rfl)
          rw[upd_comm (Ne.symm him)]at R'
          refine⟨β',w',u,.inl ?_,?_,R',hstab _ rfl,hu⟩
          ·simp[execOp,resolve,invoke,builtin,hbase,h4,hr]
          ·rw[hβ];exact yd_ hm
      ·cases hb
   ·cases hb
  ·cases hb
 ·cases hb
theorem elems_splice {k N s m:Nat}{f g:Nat→SV}(h:s+m≤N):zx_ β k N (fun q=>SV.ite (decide (s≤q) && decide (q < s+m)) (g (q - s)) (f q))=(zx_ β k N f).take (s*k)++zx_ β k m g++(zx_ β k N f).drop (s*k+m*k):=by
 have e:N=s+(m+(N - s - m)):=by omega
 have h1:zx_ β k N (fun q=>SV.ite (decide (s≤q) && decide (q < s+m)) (g (q - s)) (f q))=zx_ β k s f++(zx_ β k m g++zx_ β k (N - s - m) (fun q=>f (s+(m+q)))):=by
  conv=>lhs;rw[e]
  rw[elems_split,elems_split]
  congr 1
  ·unfold zx_
   rw[List.flatMap_def,List.flatMap_def]
   congr 1
   refine List.map_congr_left fun q hq=>?_
   have:=List.mem_range.1 hq
   dsimp only
   rw[x1_]
   simp[Nat.not_le_of_lt this]
  ·congr 1
   ·unfold zx_
    rw[List.flatMap_def,List.flatMap_def]
    congr 1
    refine List.map_congr_left fun q hq=>?_
    have:=List.mem_range.1 hq
    dsimp only
    rw[x1_]
    simp[this]
   ·unfold zx_
    rw[List.flatMap_def,List.flatMap_def]
    congr 1
    refine List.map_congr_left fun q hq=>?_
    dsimp only
    rw[x1_]
    have h3:¬(s+(m+q) < s+m):=by omega
    simp[h3]
 have h2:zx_ β k N f=zx_ β k s f++(zx_ β k m (fun q=>f (s+q))++zx_ β k (N - s - m) (fun q=>f (s+(m+q)))):=by
  conv=>lhs;rw[e]
  rw[elems_split,elems_split]
 rw[h1,h2]
 have l1:(zx_ β k s f).length=s*k:=zv_
 have l2:(zx_ β k m fun q=>f (s+q)).length=m*k:=zv_
 rw[List.take_append_of_le_length (by omega),←l1,List.take_length,List.append_assoc]
 congr 2
 rw[←List.drop_drop,List.drop_left,←l2,List.drop_left]
theorem Rep.swap0 (R:Rep w0 M β h w){i t k:Nat}{f F:Nat→SV}{ex:Bool}(hi:h i=.own t (.arr 0 k f) ex)(hb:β i=(none,0))(he:ex=false)(hF:∀q,zb_ h (F q)):Rep w0 M β (upd h i (.own t (.arr 0 k F) ex)) w:=by
  have mine:∀j,(upd h i (.own t (.arr 0 k F) ex) j).mine=(h j).mine:=fun j=>by
    unfold Vm.upd;split
    · rename_i e;rw[e,hi];rfl
    · rfl
  have born:∀j,(h j).born=true→(upd h i (.own t (.arr 0 k F) ex) j).born=true:=fun j hj=>by
    unfold Vm.upd;split
    · rfl
    · exact hj
  have hi0:(0:Nat)≠i:=by rintro rfl;rw[R.nil0]at hi;cases hi
  exact { os:=R.os,tape:=R.tape,output:=R.output,size:=R.size,frame:=R.frame,nil:=R.nil,nil0:=by rw[yp_ hi0];exact R.nil0
          st:=fun j=>by
            by_cases hj:j=i
            · subst hj;rw[z1_];simp only[HB.stable,zb_];exact fun q=>(hF q).more born
            · exact k2_
          blk:=fun j=>by
            by_cases hj:j=i
            · subst hj;rw[z1_];exact .inr ⟨hb,he,k,F,rfl⟩
            · rw[yp_ hj];exact R.blk j
          own:=fun j a hm ha=>R.own j a (by rw[←mine j];exact hm) ha
          ro:=fun j v a hv ha hz=>by
            by_cases hj:j=i
            · subst hj;rw[z1_]at hv;cases hv
            · rw[yp_ hj]at hv;exact R.ro j v a hv ha hz
          dist:=fun j q aj aq hne hmj hmq=>R.dist j q aj aq hne (by rw[←mine j];exact hmj) (by rw[←mine q];exact hmq)
          lt:=fun j a hm ha=>R.lt j a (by rw[←mine j];exact hm) ha }
set_option maxRecDepth 100000 in
theorem copy_ok (X:Ctx P T w0 M β h' w φ a){o:Oper}{cl:Call}{t tx:TypeId}{x y:Operand}{c:Prop}{v:SV}{rd:List Nat}{wr:List (Nat×HB)}(ho:o.op=.call cl)(hcl:cl.callee=.builtin .copy)(hts:cl.argTypes.toList=[t,tx])(has:cl.args.toList=[x,y])
  (hb:copyV T φ h t tx x y=some (c,v,rd,wr)) (hc:c) (hrd:∀i∈rd,h' i=h i):Does P a o w0 M β h' w v wr:=by
 obtain⟨dst,op,ty,pos,after,gd⟩:=o
 simp only at ho
 subst ho
 obtain⟨callee,args,tys⟩:=cl
 simp only at hcl hts has
 subst hcl
 have e1:args = #[x,y]:=by apply Array.ext';simpa using has
 have e2:tys = #[t,tx]:=by apply Array.ext';simpa using hts
 subst e1 e2
 unfold copyV at hb
 split at hb
 ·rename_i e k b ex0 kx bx c1 z i pa k' s n cp c2 z2 i2 pa2 k2 s2 n2 cp2 hK hKx hx hy
  split at hb
  ·rename_i z0 hz0
   split at hb
   ·rename_i d j g rd0 hsrc
    split at hb
    ·rename_i t' N k'' f ex hh
     obtain⟨hq,hb⟩:=bif_some' hb
     simp only[Option.some.injEq,Prod.mk.injEq]at hb
     obtain⟨rfl,rfl,rfl,rfl⟩:=hb
     simp only[Bool.and_eq_true]at hq
     have q1:=Nat.eq_of_beq_eq_true hq.1.1
     have q2:=Nat.eq_of_beq_eq_true hq.1.2
     have q3':pa=[]:=List.isEmpty_iff.1 hq.2
     subst q1 q2
     obtain⟨hc1,hc2,hd,hfit,hjm⟩:=hc
     obtain⟨ti,dd,hti,hts',hdd,ei,rfl,hei,hes,heb,hpos⟩:=X.tab.ty t _ hK
     obtain⟨hp,hst,ie,hie,his,hden⟩:=X.tab.zero e z0 hz0
     have hee:ie=ei:=by rw[hie]at hei;injection hei
     subst hee
     have hzs:=hst h' X.rep.nil0
     obtain⟨h1,h2⟩:=X.ev hx hc1
     obtain⟨h3,h4⟩:=X.ev hy hc2
     have hs3:zb_ h' (.sl z2 i2 pa2 k2 s2 (min n2 n) cp2):=h3
     obtain⟨hS,hgs⟩:=srcV_ok X hKx hsrc hd (fun i hi=>hrd i (.tail _ hi)) hs3 hzs hpos
     have hi':h' i=.own t' (.arr N k f) ex:=(hrd _ (.head _)).trans hh
     have hB:=X.rep.blk i
     have hSt:=X.rep.st i
     rw[hi']at hB hSt
     have hSf:∀q,zb_ h' (f q):=by simpa only[HB.stable,zb_]using hSt
     -- the source's first cells
     have hlen2:∃A C,a.eval y=.slice A n2 C:=by
      rw[h4]
      exact⟨_,_,rfl⟩
     obtain⟨A,C,hy4⟩:=hlen2
     have hfirst:(Builtin.firstCells k j (a.eval y)).run P w=.ok (zx_ β k j g).toArray w:=by
      by_cases hm0:min n2 n=0
      ·exact d11_
      ·have hc:=hS.cells
       have hn2:n2≠0:=by omega
       rw[h4]
       rw[den_sl_pos hm0]at hc
       rw[den_sl_pos hn2]
       exact hc
     have hFs:∀q,zb_ h' (SV.ite (decide (s≤q) && decide (q < s+j)) (g (q - s)) (f q)):=fun q=>zb_.ite (hgs _) (hSf q)
     have hmin:Nat.min n2 n=j:=hjm.symm
     rcases hB with ⟨g0,pr0,cs,hba,hcs,⟨tl,htl,hex⟩,hnc⟩|⟨hb0,hexf,k0,f0,hv0⟩
     ·obtain⟨hnc1,hnc2⟩:=hnc N k f rfl
      have hcl0:cs.toList=pr0++(zx_ β k N f++tl):=by rw[htl,cl_arr']
      have hle:s*k+j*k≤N*k:=by rw[←Nat.add_mul];exact Nat.mul_le_mul_right k (by omega)
      have hcl:(SV.arr N k fun q=>SV.ite (decide (s≤q) && decide (q < s+j)) (g (q - s)) (f q)).cl β =(zx_ β k N f).take (s*k)++zx_ β k j g++(zx_ β k N f).drop (s*k+j*k):=by
       rw[cl_arr',elems_splice (by omega)]
      have hrow:cs.toList.take (pr0.length+s*k)++zx_ β k j g++cs.toList.drop (pr0.length+s*k+j*k)=pr0++((SV.arr N k fun q=>SV.ite (decide (s≤q) && decide (q < s+j)) (g (q - s)) (f q)).cl β ++ tl):=by
       have l1:(zx_ β k N f).length=N*k:=zv_
       rw[hcl,hcl0,List.take_length_add_append,Nat.add_assoc,List.drop_length_add_append,List.take_append_of_le_length (by omega),List.drop_append_of_le_length (by omega)]
       simp[List.append_assoc]
      have hsz:cs.size=pr0.length+((zx_ β k N f).length+tl.length):=by rw[←Array.length_toList,hcl0,List.length_append,List.length_append]
      have hstore:(storeCells ⟨g0,pr0.length+s*k,none⟩ (zx_ β k j g)).run P w=.ok () (w.setRow g0 (pr0++((SV.arr N k fun q=>SV.ite (decide (s≤q) && decide (q < s+j)) (g (q - s)) (f q)).cl β ++ tl)).toArray):=by
       have:=run_storeCells_at P g0 (pr0.length+s*k) t' (zx_ β k j g) 0 cs w hcs (by rw[zv_,hsz,zv_];omega) elems_sane
       rw[Nat.add_zero,zv_,hrow]at this
       exact this
      have R1:=X.rep.set (v':=.arr N k fun q=>SV.ite (decide (s≤q) && decide (q < s+j)) (g (q - s)) (f q)) (ex':=ex) (cs:=(pr0++((SV.arr N k fun q=>SV.ite (decide (s≤q) && decide (q < s+j)) (g (q - s)) (f q)).cl β ++ tl)).toArray) hi' hba (by simp only[zb_];exact hFs)
       (.inl ⟨g0,pr0,_,hba,setRow_heap w g0 cs _ t' _ hcs,⟨tl,by simp,hex⟩,fun n2 k2 f2 hv=>by
        injection hv with h1 h2 h3
        subst h1 h2
        refine⟨hnc1,?_⟩
        refine Nat.le_trans hnc2 (Nat.le_of_eq ?_)
        show cs.size=(pr0++((SV.arr N k fun q=>SV.ite (decide (s≤q) && decide (q < s+j)) (g (q - s)) (f q)).cl β ++ tl)).length
        rw[List.length_append,List.length_append,zy_,hsz,zv_]
        simp[SV.size]⟩)
      by_cases hn0:n=0
      ·have hj0:j=0:=by omega
       subst hn0 hj0
       refine⟨β,w,.int .i64 (0:Nat),.inl ?_,fun _ _=>rfl,?_,trivial,rfl⟩
       ·exact d12_
       ·show Rep w0 M β (upd h' i _) w
        have e0:(zx_ β k N fun q=>SV.ite (decide (s≤q) && decide (q < s+0)) (g (q - s)) (f q))=zx_ β k N f:=by
         rw[elems_splice (by omega)]
         have hz:zx_ β k 0 g=[]:=rfl
         rw[hz,List.append_nil,Nat.zero_mul,Nat.add_zero,List.take_append_drop]
        have hw:w.setRow g0 (pr0++((SV.arr N k fun q=>SV.ite (decide (s≤q) && decide (q < s+0)) (g (q - s)) (f q)).cl β ++ tl)).toArray=w:=by
         rw[cl_arr',e0,←hcl0,Array.toArray_toList]
         exact setRow_self w g0 cs t' (0,0) hcs
        rw[hw]at R1
        exact R1
      ·have hbase:a.eval x=.slice (some ⟨g0,pr0.length+s*k,none⟩) n (max n (cp.getD (β z).2)):=by
        rw[h2,den_sl_pos hn0,hba,q3']
        simp[offp,addr_addo]
       refine⟨β,_,.int .i64 (j:Nat),.inl ?_,fun _ _=>rfl,R1,trivial,rfl⟩
       rw[hy4]at hfirst
       generalize max n (cp.getD (β z).2)=C' at hbase
       have hrun:(Builtin.copy_ #[t,tx] ty #[.slice (some ⟨g0,pr0.length+s*k,none⟩) n C',.slice A n2 C]).run P w=.ok (goInt j) (w.setRow g0 (pr0++((SV.arr N k fun q=>SV.ite (decide (s≤q) && decide (q < s+j)) (g (q - s)) (f q)).cl β ++ tl)).toArray):=by
        have z1:(#[t,tx]:Array TypeId)[0]? = some t:=rfl
        have z2:(#[Value.slice (some ⟨g0,pr0.length+s*k,none⟩) n C',.slice A n2 C]:Array Value)[0]? = some (.slice (some ⟨g0,pr0.length+s*k,none⟩) n C'):=rfl
        have z3:(#[Value.slice (some ⟨g0,pr0.length+s*k,none⟩) n C',.slice A n2 C]:Array Value)[1]? = some (.slice A n2 C):=rfl
        unfold Builtin.copy_
        simp only[z1,z2,z3,Builtin.lenOf,Sem.run_bind,Sem.run_pure,run_underlying hdd,Result.andThen_ok,hmin,x4_ hie,hes,hfirst,List.toList_toArray,hstore]
       simp only[execOp,resolve,invoke,Sem.run_bind,Sem.run_pure,Result.andThen_ok,List.map_toArray,List.map_cons,List.map_nil,hbase,hy4,builtin,hrun,goInt]
     ·injection hv0 with e1 e2 e3
      subst e1
      have hn0:n=0:=by omega
      have hj0:j=0:=by omega
      subst hn0 hj0
      refine⟨β,w,.int .i64 (0:Nat),.inl ?_,fun _ _=>rfl,?_,trivial,rfl⟩
      ·exact d12_
      ·exact X.rep.swap0 hi' hb0 hexf hFs
    ·cases hb
   ·cases hb
  ·cases hb
 ·cases hb
end
end Go.Proofs.Ytmljmabbopkpiaa.Vm
end

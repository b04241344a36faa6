import Derived.Test.YtmljmabbopkpiaaC1
import Derived.Test.YtmljmabbopkpiaaC4
import Derived.Orders
set_option linter.unusedSimpArgs false
set_option linter.unusedVariables false
set_option maxRecDepth 100000
section
namespace Go.Proofs.Ytmljmabbopkpiaa.Vm
open Go.RowKit
abbrev y4_:=List SV→HM→Nat→Option Eff
def noW:Option (Prop×SV×List Nat)→Option Eff
 | some (c,v,rd)=>some (c,v,rd,[])
 | none=>none
def opX (T:Tab)(C:FuncId→Option y4_)(φ : Fr)(h:HM)(m:Nat):Op→Option Eff
 | .alloc t=>match T.zero t with
  | some z=>some (True,.ptr m [],[],[(m,.own t z true)])
  | none=>none
 | .box t x=>match ev φ x with
  | some (c,v)=>bif v.plain then some (c,.ptr m [],[],[(m,.own t v true)])else none
  | none=>none
 | .build t ps=>buildV T φ t ps.toList
 | .buildSlice t n ps=>buildSliceV T φ m t n ps.toList
 | .store t x y=>storeV T φ h t x y
 | .makeSlice t x y=>makeV T φ m t x y
 | .slice t x lo hi mx=>match mx with
  | none => bif isC1 lo && hi.isNone then (match sliceRV T φ h m t x with
   | some e=>some e
   | none=>sliceV T φ m t x lo hi)else sliceV T φ m t x lo hi
  | some q=>match hi with
   | some r=>slice3V T φ m t x lo r q
   | none=>none
 | .call cl=>match cl.callee with
  | .value f=>match ev φ f,evL φ cl.args.toList with
   | some (c1,.fn g caps),some (c2,vs)=>match C g with
    | some S=>match S (vs++caps) h m with
     | some (c3,v,rd,wr)=>some (c1∧c2∧c3,v,rd,wr)
     | none=>none
    | none=>none
   | _,_=>none
  | .builtin .append=>match cl.argTypes.toList,cl.args.toList with
   | [t,tx],[x,y]=>match appendV T φ h m t tx x y with
    | some e=>some e
    | none=>appendFV T φ h m t tx x y
   | _,_=>none
  | .builtin .copy=>match cl.argTypes.toList,cl.args.toList with
   | [t,tx],[x,y]=>match copyV T φ h t tx x y with
    | some e=>some e
    | none=>copyPV T φ h t tx x y
   | _,_=>none
  | .builtin b=>noW (callV T φ b cl.argTypes.toList cl.args.toList)
  | .invoke _ _=>none
 | op=>noW (opV T φ h op)
def zm_ (P:Program)(f:FuncId)(S:y4_):Prop:=
 (∃ fn, P.funcs[f]? = some fn ∧ (fn.name == "runtime.NumGoroutine") = false ∧ fn.body.isNone = false) ∧
 ∀args h m c v rd wr,S args h m=some (c,v,rd,wr)→(∀i,m≤i→h i=.dead)→c→∀w0 M β h' w,Rep w0 M β h' w→(∀i∈rd,h' i=h i)→(∀p∈wr,h' p.1=h p.1)→zh_ h' args →
  Calls P f (denL β args).toArray w fun e w'=>∃β',(∀i,(h' i).born=true→β i = β' i)∧Rep w0 M β' (wrs h' wr) w'∧zb_ (wrs h' wr) v∧e=.returned (v.den β')
theorem zn_ {α : Type}{b:Bool}{x:Option α}{y:α}(h:(bif b then x else none)=some y):b=true∧x=some y:=by
 cases b with
 | true=>exact⟨rfl,h⟩
 | false=>cases h
section
variable {P:Program} {T:Tab} {C:FuncId→Option y4_} {w0 w:World} {M:Nat→Prop} {β : Env} {φ : Fr} {h h':HM} {a:Act}
theorem denL_append (l m:List SV):denL β (l++m)=denL β l++denL β m:=by
 induction l with
 | nil=>rfl
 | cons x l ih=>simp only[List.cons_append,denL,ih]
theorem stableL_append {l m:List SV}(h1:zh_ h l)(h2:zh_ h m):zh_ h (l++m):=yx_.2 fun v hv=>by
 rcases List.mem_append.1 hv with hv|hv
 ·exact yx_.1 h1 v hv
 ·exact yx_.1 h2 v hv
theorem Does.wp {o:Oper}{v:SV}{wr:List (Nat×HB)}{K:Act→World→Prop}{Q:Exit→Act→World→Prop}(hd:Does P a o w0 M β h' w v wr)
  (hK:∀β' w' u,(∀i,(h' i).born=true→β i = β' i)→Rep w0 M β' (wrs h' wr) w'→zb_ (wrs h' wr) v→u=v.den β'→K (a.put o.dst u) w'):o.wp P a w K Q:=by
 obtain⟨β',w',u,hr|⟨hr,rfl⟩,h1,h2,h3,h4⟩:=hd
 ·unfold Oper.wp;rw[hr];exact hK β' w' u h1 h2 h3 h4
 ·unfold Oper.wp;rw[hr];exact hK β' w' undef h1 h2 h3 h4
theorem opX_ok (hC:∀f S,C f=some S→zm_ P f S)(X:Ctx P T w0 M β h' w φ a){o:Oper}{c:Prop}{v:SV}{rd:List Nat}{wr:List (Nat×HB)}{m:Nat}(ho:opX T C φ h m o.op=some (c,v,rd,wr))(hc:c)
  (hrd:∀i∈rd,h' i=h i) (hwr:∀p∈wr,h' p.1=h p.1) (hm:∀i,m≤i→h i=.dead) {K:Act→World→Prop} {Q:Exit→Act→World→Prop}
  (hK:∀β' w' u,(∀i,(h' i).born=true→β i = β' i)→Rep w0 M β' (wrs h' wr) w'→zb_ (wrs h' wr) v→u=v.den β'→K (a.put o.dst u) w'):o.wp P a w K Q:=by
 have pure:∀{c v rd},opV T φ h o.op=some (c,v,rd)→c→(∀i∈rd,h' i=h i)→(∀β' w' u,(∀i,(h' i).born=true→β i = β' i)→Rep w0 M β' h' w'→zb_ h' v→u=v.den β'→K (a.put o.dst u) w')→o.wp P a w K Q:=by
  intro c v rd ho hc hrd hK
  obtain⟨h1,h2⟩:=opV_ok X ho hc hrd
  unfold Oper.wp
  rw[h2]
  exact hK β w _ (fun _ _=>rfl) X.rep h1 rfl
 have lift:∀{x:Option (Prop×SV×List Nat)},noW x=some (c,v,rd,wr)→x=some (c,v,rd)∧wr=[]:=by
  intro x hx
  unfold noW at hx
  split at hx
  ·simp only[Option.some.injEq,Prod.mk.injEq]at hx
   obtain⟨rfl,rfl,rfl,rfl⟩:=hx
   exact⟨rfl,rfl⟩
  ·cases hx
 obtain⟨dst,op,ty,pos,after,gd⟩:=o
 simp only at ho pure
 cases op<;>simp only[opX]at ho
 case alloc t=>
  split at ho
  ·rename_i z hz
   simp only[Option.some.injEq,Prod.mk.injEq]at ho
   obtain⟨rfl,rfl,rfl,rfl⟩:=ho
   exact(alloc_ok X rfl hz ((hwr _ (.head _)).trans (hm m (Nat.le_refl _)))).wp hK
  ·cases ho
 case box t x=>
  split at ho
  ·rename_i c' u he
   cases hp:u.plain with
   | false=>rw[hp]at ho;cases ho
   | true=>
    rw[hp]at ho
    simp only[cond_true,Option.some.injEq,Prod.mk.injEq]at ho
    obtain⟨rfl,rfl,rfl,rfl⟩:=ho
    exact(box_ok X rfl he hc hp ((hwr _ (.head _)).trans (hm m (Nat.le_refl _)))).wp hK
  ·cases ho
 case build t ps=>exact(build_ok X rfl ho hc).wp hK
 case buildSlice t n ps=>
  have hw:∃b,wr=[(m,b)]:=by
   unfold buildSliceV at ho
   split at ho<;>try (cases ho;done)
   split at ho<;>try (cases ho;done)
   split at ho<;>try (cases ho;done)
   have ho:=(zn_ ho).2
   simp only[Option.some.injEq,Prod.mk.injEq]at ho
   obtain⟨rfl,rfl,rfl,rfl⟩:=ho
   exact⟨_,rfl⟩
  obtain⟨b,rfl⟩:=hw
  exact(buildSlice_ok X rfl ho hc ((hwr _ (.head _)).trans (hm m (Nat.le_refl _)))).wp hK
 case makeSlice t x y=>
  have hw:∃b,wr=[(m,b)]:=by
   unfold makeV at ho
   split at ho<;>try (cases ho;done)
   split at ho<;>try (cases ho;done)
   have ho:=(zn_ ho).2
   simp only[Option.some.injEq,Prod.mk.injEq]at ho
   obtain⟨rfl,rfl,rfl,rfl⟩:=ho
   exact⟨_,rfl⟩
  obtain⟨b,rfl⟩:=hw
  exact(make_ok X rfl ho hc ((hwr _ (.head _)).trans (hm m (Nat.le_refl _)))).wp hK
 case store t x y=>exact(store_ok X rfl ho hc hrd).wp hK
 case slice t x lo hi mx=>
  cases mx with
  | some y=>
   simp only at ho
   split at ho
   ·rename_i r
    have hw:∃b,wr=[(m,b)]:=by
     unfold slice3V at ho
     split at ho<;>try (cases ho;done)
     split at ho<;>try (cases ho;done)
     have ho:=(zn_ ho).2
     simp only[Option.some.injEq,Prod.mk.injEq]at ho
     obtain⟨rfl,rfl,rfl,rfl⟩:=ho
     exact⟨_,rfl⟩
    obtain⟨b,rfl⟩:=hw
    exact(slice3_ok X rfl ho hc ((hwr _ (.head _)).trans (hm m (Nat.le_refl _)))).wp hK
   ·cases ho
  | none=>
   simp only at ho
   have ho2:sliceV T φ m t x lo hi=some (c,v,rd,wr)∨((isC1 lo && hi.isNone)=true∧sliceRV T φ h m t x=some (c,v,rd,wr)):=by
    cases hb1:isC1 lo && hi.isNone with
    | false=>rw[hb1]at ho;exact .inl ho
    | true=>
     rw[hb1]at ho
     simp only[cond_true]at ho
     split at ho
     ·rename_i ef hap
      simp only[Option.some.injEq]at ho
      subst ho
      exact .inr ⟨rfl,hap⟩
     ·exact .inl ho
   clear ho
   rcases ho2 with ho|⟨hb1,hap⟩
   ·have hw:∃b,wr=[(m,b)]:=by
     unfold sliceV at ho
     split at ho<;>try (cases ho;done)
     ·split at ho<;>try (cases ho;done)
      have ho:=(zn_ ho).2
      simp only[Option.some.injEq,Prod.mk.injEq]at ho
      obtain⟨rfl,rfl,rfl,rfl⟩:=ho
      exact⟨_,rfl⟩
     ·split at ho<;>try (cases ho;done)
      simp only[Option.some.injEq,Prod.mk.injEq]at ho
      obtain⟨rfl,rfl,rfl,rfl⟩:=ho
      exact⟨_,rfl⟩
    obtain⟨b,rfl⟩:=hw
    exact(slice_ok X rfl ho hc ((hwr _ (.head _)).trans (hm m (Nat.le_refl _)))).wp hK
   ·simp only[Bool.and_eq_true]at hb1
    cases hi with
    | some y=>cases hb1.2
    | none=>
     have hw:∃b,(m,b)∈wr:=by
      have ho:=hap
      unfold sliceRV at ho
      split at ho<;>try (cases ho;done)
      split at ho<;>try (cases ho;done)
      split at ho<;>try (cases ho;done)
      have ho:=(zn_ ho).2
      simp only[Option.some.injEq,Prod.mk.injEq]at ho
      obtain⟨rfl,rfl,rfl,rfl⟩:=ho
      exact⟨_,.tail _ (.head _)⟩
     obtain⟨b,hw⟩:=hw
     exact(sliceR_ok X rfl hb1.1 hap hc hrd ((hwr _ hw).trans (hm m (Nat.le_refl _)))).wp hK
 case call cl=>
  split at ho
  ·rename_i f hf
   split at ho
   ·rename_i c1 g caps c2 vs hx hl
    split at ho
    ·rename_i S hS
     split at ho
     ·rename_i c3 v' rd' wr' hs
      simp only[Option.some.injEq,Prod.mk.injEq]at ho
      obtain⟨rfl,rfl,rfl,rfl⟩:=ho
      obtain⟨hc1,hc2,hc3⟩:=hc
      obtain⟨h1,h2⟩:=X.ev hx hc1
      obtain⟨h3,h4⟩:=evL_spec X.fits X.rep.nil X.rep.nil0 hl hc2
      obtain⟨⟨fn,hfn,hne,hbd⟩,hcall⟩:=hC g S hS
      have key:=hcall (vs++caps) h m c3 _ _ _ hs hm hc3 w0 M β h' w X.rep hrd hwr (stableL_append h3 h1)
      have hargs:cl.args.map a.eval++(denL β caps).toArray=(denL β (vs++caps)).toArray:=by
       apply Array.ext'
       rw[denL_append,←h4];simp
      have hrun:(execOp a.eval ⟨dst,.call cl,ty,pos,after,gd⟩).run P w=.ok (.enter g (denL β (vs++caps)).toArray) w:=by
       obtain⟨callee,args,tys⟩:=cl
       simp only at hf
       subst hf
       rw[←hargs]
       have hne' : ¬ (fn.name = "runtime.NumGoroutine") := by simpa using hne
       have hbd':¬(fn.body=none):=fun e=>by rw[e]at hbd;cases hbd
       simp[execOp,resolve,h2,SV.den,Deferred.ofValue,invoke,callFunc,hfn,hne',hbd']
      unfold Oper.wp
      rw[hrun,Oper.upon_enter]
      refine Calls.mono key fun e w' he=>?_
      obtain⟨β',k1,k2,k3,rfl⟩:=he
      exact hK β' w' _ k1 k2 k3 rfl
     ·cases ho
    ·cases ho
   ·cases ho
  ·rename_i hb
   split at ho
   ·rename_i t tx x y hts has
    split at ho
    ·rename_i ef hap
     simp only[Option.some.injEq]at ho
     subst ho
     have ho:=hap
     have hw:∃b,(m,b)∈wr:=by
      unfold appendV at ho
      split at ho<;>try (cases ho;done)
      split at ho<;>try (cases ho;done)
      split at ho<;>try (cases ho;done)
      have ho:=(zn_ ho).2
      split at ho
      ·split at ho<;>try (cases ho;done)
       have ho:=(zn_ ho).2
       simp only[Option.some.injEq,Prod.mk.injEq]at ho
       obtain⟨rfl,rfl,rfl,rfl⟩:=ho
       exact⟨_,.head _⟩
      ·split at ho<;>try (cases ho;done)
       have ho:=(zn_ ho).2
       simp only[Option.some.injEq,Prod.mk.injEq]at ho
       obtain⟨rfl,rfl,rfl,rfl⟩:=ho
       exact⟨_,.tail _ (.head _)⟩
     obtain⟨b,hw⟩:=hw
     exact(append_ok X rfl hb hts has ho hc hrd ((hwr _ hw).trans (hm m (Nat.le_refl _)))).wp hK
    ·have hw:∃b,(m,b)∈wr:=by
      unfold appendFV at ho
      split at ho<;>try (cases ho;done)
      split at ho<;>try (cases ho;done)
      split at ho<;>try (cases ho;done)
      have ho:=(zn_ ho).2
      simp only[Option.some.injEq,Prod.mk.injEq]at ho
      obtain⟨rfl,rfl,rfl,rfl⟩:=ho
      exact⟨_,.head _⟩
     obtain⟨b,hw⟩:=hw
     exact(appendF_ok X rfl hb hts has ho hc hrd ((hwr _ hw).trans (hm m (Nat.le_refl _)))).wp hK
   ·cases ho
  ·rename_i hb
   split at ho
   ·rename_i t tx x y hts has
    split at ho
    ·rename_i ef hcp
     simp only[Option.some.injEq]at ho
     subst ho
     exact(copy_ok X rfl hb hts has hcp hc hrd).wp hK
    ·exact(copyP_ok X rfl hb hts has ho hc hrd).wp hK
   ·cases ho
  ·rename_i b hb0 hb1 hb2
   obtain⟨hx,rfl⟩:=lift ho
   exact pure (by simp only[opV,hb2,hx]) hc hrd hK
  ·cases ho
 all_goals
  obtain⟨hx,rfl⟩:=lift ho
  exact pure hx hc hrd hK
end
end Go.Proofs.Ytmljmabbopkpiaa.Vm
namespace Go.Proofs.Ytmljmabbopkpiaa.Vm
open Go.RowKit
def hp (L:List HB):HM:=fun i=>L.getD i .dead
def setH:List HB→Nat→HB→List HB
 | [],0,b=>[b]
 | [],n+1,b=>.dead::setH [] n b
 | x::l,0,b=>b::l
 | x::l,n+1,b=>x::setH l n b
def wrsL:List HB→List (Nat×HB)→List HB
 | L,[]=>L
 | L,p::l=>wrsL (setH L p.1 p.2) l
theorem hp_setH:∀(L:List HB) (i:Nat) (b:HB),hp (setH L i b)=upd (hp L) i b:=by
 have key:∀(L:List HB) (i:Nat) (b:HB) (j:Nat),(setH L i b).getD j .dead=if j=i then b else L.getD j .dead:=by
  intro L
  induction L with
  | nil=>
   intro i
   induction i with
   | zero=>intro b j;cases j<;>simp[setH]
   | succ i ih=>
    intro b j
    cases j with
    | zero=>simp[setH]
    | succ j=>have:=ih b j;simp only[List.getD_eq_getElem?_getD]at this;simp[setH,this]
  | cons x l ih=>
   intro i b j
   cases i with
   | zero=>cases j<;>simp[setH]
   | succ i=>
    cases j with
    | zero=>simp[setH]
    | succ j=>have:=ih i b j;simp only[List.getD_eq_getElem?_getD]at this;simp[setH,this]
 intro L i b
 funext j
 exact key L i b j
theorem hp_wrsL:∀(wr:List (Nat×HB)) (L:List HB),hp (wrsL L wr)=wrs (hp L) wr
 | [],L=>rfl
 | p::l,L=>by
  show hp (wrsL (setH L p.1 p.2) l)=wrs (upd (hp L) p.1 p.2) l
  rw[hp_wrsL l,hp_setH]
theorem xy_ {L:List HB}{i:Nat}(h:L.length≤i):hp L i=.dead:=by unfold hp;simp[h]
theorem wrs_congr:∀(wr:List (Nat×HB)) {h h':HM} {i:Nat},h i=h' i→wrs h wr i=wrs h' wr i
 | [],h,h',i,e=>e
 | p::l,h,h',i,e=>wrs_congr l (by unfold upd;split<;>simp_all)
theorem wrs_out:∀(wr:List (Nat×HB)) {h:HM} {i:Nat},i ∉ wr.map (·.1)→wrs h wr i=h i
 | [],h,i,_=>rfl
 | p::l,h,i,hi=>by
  show wrs (upd h p.1 p.2) l i=h i
  rw[wrs_out l (fun hm=>hi (.tail _ hm)),yp_ (fun e=>hi (by rw[e];exact .head _))]
theorem wrs_in:∀(wr:List (Nat×HB)) {h h':HM} {i:Nat},i∈wr.map (·.1)→wrs h wr i=wrs h' wr i
 | [],h,h',i,hi=>by cases hi
 | p::l,h,h',i,hi=>by
  by_cases hl:i∈l.map (·.1)
  ·exact wrs_in l hl
  ·have:i=p.1:=by
    rcases List.mem_cons.1 hi with e|e
    ·exact e
    ·exact absurd e hl
   subst this
   exact wrs_congr l (by rw[z1_,z1_])
theorem wrs_born:∀(wr:List (Nat×HB)) {h:HM} {i:Nat},(∀p∈wr,p.2.born=true)→(h i).born=true→(wrs h wr i).born=true
 | [],h,i,_,hb=>hb
 | p :: l, h, i, hw, hb => wrs_born l (fun q hq => hw q (.tail _ hq)) (by
   unfold upd;split
   ·exact hw p (.head _)
   ·exact hb)
def tm:List Operand→List Tmp
 | []=>[]
 | x::l=>match x with
  | .tmp t=>t::tm l
  | _=>tm l
def tmO:Option Operand→List Tmp
 | some (.tmp t)=>[t]
 | _=>[]
def tmP:List (Nat×Operand)→List Tmp
 | []=>[]
 | p::l=>match p.2 with
  | .tmp t=>t::tmP l
  | _=>tmP l
def tmpsOf:Op→List Tmp
 | .move x=>tm [x]
 | .assign x=>tm [x]
 | .pick c x y=>tm [c,x,y]
 | .box _ x=>tm [x]
 | .build _ ps=>tmP ps.toList
 | .buildSlice _ _ ps=>tmP ps.toList
 | .load _ x=>tm [x]
 | .store _ x y=>tm [x,y]
 | .nilCheck x=>tm [x]
 | .binOp _ _ x y _=>tm [x,y]
 | .unOp _ _ x=>tm [x]
 | .convert _ _ x=>tm [x]
 | .makeFunc _ _ caps=>tm caps.toList
 | .makeSlice _ x y=>tm [x,y]
 | .slice _ x lo hi mx=>tm [x]++tmO lo++tmO hi++tmO mx
 | .fieldAddr _ x _=>tm [x]
 | .field _ x _=>tm [x]
 | .indexAddr _ x y=>tm [x,y]
 | .index _ x y=>tm [x,y]
 | .extract x _=>tm [x]
 | .call c=>match c.callee with
  | .value f=>tm (f::c.args.toList)
  | _=>tm c.args.toList
 | _=>[]
def gtmp (ops:List Oper):Option (Nat×Bool)→Option (Option (Tmp×Bool))
 | none=>some none
 | some (j,want)=>match ops[j]? with
  | some o=>match o.dst with
   | some t=>some (some (t,want))
   | none=>none
  | none=>none
def gval (φ : Fr):Option (Tmp×Bool)→Option (Option Bool)
 | none=>some none
 | some (t,want)=>match look φ t with
  | some (.bool b)=>some (some (b == want))
  | some (.gd b0 (.bool b))=>some (some (b0 && (b == want)))
  | _=>none
def restr (φ : Fr):List Tmp→Fr
 | []=>[]
 | t::l=>match look φ t with
  | some v=>(t,v)::restr φ l
  | none=>restr φ l
theorem look_restr {φ : Fr}:∀{us:List Tmp} {t:Tmp} {v:SV},look (restr φ us) t=some v→t∈us∧look φ t=some v
 | [],t,v,h=>by cases h
 | u::us,t,v,h=>by
  simp only[restr]at h
  split at h
  ·rename_i x hx
   simp only[look]at h
   cases hb:Nat.beq u t with
   | true=>
    rw[hb]at h
    have:=Nat.eq_of_beq_eq_true hb
    subst this
    exact⟨.head _,hx.trans h⟩
   | false=>
    rw[hb]at h
    obtain⟨h1,h2⟩:=look_restr h
    exact⟨.tail _ h1,h2⟩
  ·obtain⟨h1,h2⟩:=look_restr h
   exact⟨.tail _ h1,h2⟩
structure Rc where
 dst:Option Tmp
 us:List Tmp
 v:SV
 rd:List Nat
 wr:List (Nat×HB)
def allBorn:List (Nat×HB)→Bool
 | []=>true
 | p::l=>p.2.born && allBorn l
def HB.isGone:HB→Bool
 | .gone=>true
 | _=>false
def allGone (n:Nat):List (Nat×HB)→Bool
 | []=>true
 | p::l=>p.2.isGone && Nat.ble n p.1 && allGone n l
def gus:Option (Tmp×Bool)→List Tmp
 | none=>[]
 | some (t,_)=>[t]
def dstOk (N:Nat):Option Tmp→Bool
 | none=>true
 | some t=>Nat.blt t N
def opG (T:Tab)(C:FuncId→Option y4_)(N:Nat)(ops:List Oper)(φ : Fr)(L:List HB)(o:Oper):Option (Prop×Rc):=
 match gtmp ops o.guard with
 | none=>none
 | some g=>match gval φ g with
  | none=>none
  | some r=>match opX T C (restr φ (tmpsOf o.op)) (hp L) L.length o.op with
   | some (c,v,rd,wr)=>match r with
    | none=>bif allBorn wr && dstOk N o.dst then some (c,⟨o.dst,tmpsOf o.op,v,rd,wr⟩)else none
    | some b=>bif allBorn wr && (b || allGone L.length wr) && dstOk N o.dst then some (b=true→c,⟨o.dst,gus g++tmpsOf o.op,.gd b v,rd,wr⟩)else none
   | none=>match r with
    | none=>none
    | some b=>bif b then none else bif dstOk N o.dst then some (True,⟨o.dst,gus g,.gd false (.tup []),[],[]⟩)else none
theorem allBorn_spec:∀{wr:List (Nat×HB)},allBorn wr=true→∀p∈wr,p.2.born=true
 | [],_,p,hp=>by cases hp
 | q::l,h,p,hp=>by
  simp only[allBorn,Bool.and_eq_true]at h
  rcases List.mem_cons.1 hp with rfl|hp
  ·exact h.1
  ·exact allBorn_spec h.2 p hp
section
variable {P:Program} {T:Tab} {C:FuncId→Option y4_} {w0 w:World} {M:Nat→Prop} {β : Env} {φ : Fr} {h h':HM} {a:Act}
theorem births:∀{wr:List (Nat×HB)} {n:Nat} {β : Env} {h:HM},Rep w0 M β h w→allGone n wr=true→(∀p∈wr,h p.1=.dead∨h p.1=.gone)→∃β',(∀i,(h i).born=true→β i = β' i)∧Rep w0 M β' (wrs h wr) w
 | [],n,β,h,R,_,_=>⟨β,fun _ _=>rfl,R⟩
 | p::l,n,β,h,R,hg,hd=>by
  simp only[allGone,Bool.and_eq_true]at hg
  obtain⟨⟨h1,h2⟩,h3⟩:=hg
  have hb:p.2=.gone:=by cases hh:p.2<;>rw[hh]at h1<;>first|rfl |(cases h1;done)
  rcases hd p (.head _)with hp|hp
  ·have R1:=R.birth p.1 hp (none,0) .gone trivial rfl trivial (fun a hm _=>by cases hm) (fun v a hv=>by cases hv)
   have hd':∀q∈l,upd h p.1 .gone q.1=.dead∨upd h p.1 .gone q.1=.gone:=fun q hq=>by
    unfold upd;split
    ·exact .inr rfl
    ·exact hd q (.tail _ hq)
   obtain⟨β',k1,k2⟩:=births R1 h3 hd'
   refine⟨β',fun i hi=>?_,by show Rep w0 M β' (wrs (upd h p.1 p.2) l) w;rw[hb];exact k2⟩
   have:i≠p.1:=by rintro rfl;rw[hp]at hi;cases hi
   rw[←k1 i (by rw[yp_ this];exact hi),xg_ this]
  ·have e:upd h p.1 p.2=h:=by funext j;unfold upd;split<;>simp_all
   obtain⟨β',k1,k2⟩:=births R h3 (fun q hq=>hd q (.tail _ hq))
   exact⟨β',k1,by show Rep w0 M β' (wrs (upd h p.1 p.2) l) w;rw[e];exact k2⟩
theorem wanted_gval {ops:Array Oper}{o:Oper}{g:Option (Tmp×Bool)}{r:Option Bool}(hgt:gtmp ops.toList o.guard=some g)(hgv:gval φ g=some r)(hF:∀t∈gus g,∀v,look φ t=some v→a.tmps.getD t undef=v.den β) :
  Region.wanted o (yielded ops a.tmps)=r.getD true:=by
 cases g with
 | none=>
  simp only[gval,Option.some.injEq]at hgv
  subst hgv
  have hgu:o.guard=none:=by
   cases hgd:o.guard with
   | none=>rfl
   | some p=>
    obtain⟨j,want⟩:=p
    rw[hgd]at hgt
    simp only[gtmp]at hgt
    split at hgt
    ·split at hgt<;>simp at hgt
    ·simp at hgt
  unfold Region.wanted;rw[hgu];rfl
 | some p=>
  obtain⟨t,want⟩:=p
  -- the deciding operation
  have hgu:∃j o',o.guard=some (j,want)∧ops[j]? = some o'∧o'.dst=some t:=by
   cases hgd:o.guard with
   | none=>rw[hgd]at hgt;simp[gtmp]at hgt
   | some p=>
    obtain⟨j,want'⟩:=p
    rw[hgd]at hgt
    simp only[gtmp]at hgt
    split at hgt
    ·rename_i o' ho'
     split at hgt
     ·rename_i t' ht'
      simp only[Option.some.injEq,Prod.mk.injEq]at hgt
      obtain⟨rfl,rfl⟩:=hgt
      exact⟨j,o',rfl,by simpa using ho',ht'⟩
     ·simp at hgt
    ·simp at hgt
  obtain⟨j,o',hgd,hoj,hdt⟩:=hgu
  have hy:∀x,a.tmps.getD t undef=.bool x→yielded ops a.tmps j=some x:=fun x hx=>by
   have hlt:t < a.tmps.size:=by
    rcases Nat.lt_or_ge t a.tmps.size with h|h
    ·exact h
    ·rw[Array.getD_eq_getD_getElem?,Array.getElem?_eq_none h]at hx;cases hx
   have:a.tmps[t]? = some (.bool x):=by
    rw[Array.getD_eq_getD_getElem?,Array.getElem?_eq_getElem hlt]at hx
    rw[Array.getElem?_eq_getElem hlt];simpa using hx
   simp[yielded,hoj,hdt,this]
  have hu:a.tmps.getD t undef=.tuple #[]→yielded ops a.tmps j=none:=fun hx=>by
   have:a.tmps[t]? = none∨a.tmps[t]? = some (.tuple #[]):=by
    rw[Array.getD_eq_getD_getElem?]at hx
    cases hh:a.tmps[t]? with
    | none=>exact .inl rfl
    | some y=>rw[hh]at hx;exact .inr (by simpa using hx)
   rcases this with h|h<;>simp[yielded,hoj,hdt,h]
  unfold Region.wanted
  rw[hgd]
  simp only
  simp only[gval]at hgv
  split at hgv
  ·rename_i b1 hl
   injection hgv with hgv;subst hgv
   have:=hF t (by simp[gus]) _ hl
   simp only[SV.den]at this
   rw[hy b1 this]
   cases b1<;>cases want<;>rfl
  ·rename_i b0 b1 hl
   injection hgv with hgv;subst hgv
   have:=hF t (by simp[gus]) _ hl
   simp only[SV.den]at this
   cases b0 with
   | true=>rw[hy b1 this];cases b1<;>cases want<;>rfl
   | false=>rw[hu this];cases want<;>rfl
  ·simp at hgv
theorem allGone_ge {n:Nat}:∀{wr:List (Nat×HB)},allGone n wr=true→∀p∈wr,n≤p.1:=by
 intro wr
 induction wr with
 | nil=>intro _ p hp;cases hp
 | cons q l ih=>
  intro hg p hp
  simp only[allGone,Bool.and_eq_true]at hg
  rcases List.mem_cons.1 hp with rfl|hp
  ·exact Nat.le_of_ble_eq_true hg.1.2
  ·exact ih hg.2 p hp
theorem opG_spec {T:Tab}{C:FuncId→Option y4_}{N:Nat}{ops:List Oper}{L:List HB}{o:Oper}{c:Prop}{rc:Rc}(hg:opG T C N ops φ L o=some (c,rc)):∃g r,gtmp ops o.guard=some g∧gval φ g=some r∧dstOk N o.dst=true∧rc.dst=o.dst ∧
    ((∃c0,opX T C (restr φ (tmpsOf o.op)) (hp L) L.length o.op=some (c0,rc.v,rc.rd,rc.wr)∧r=none∧c=c0∧allBorn rc.wr=true∧rc.us=tmpsOf o.op) ∨
     (∃c0 b v,opX T C (restr φ (tmpsOf o.op)) (hp L) L.length o.op=some (c0,v,rc.rd,rc.wr)∧r=some b∧c=(b=true→c0)∧allBorn rc.wr=true∧(b=false→allGone L.length rc.wr=true)∧rc.us=gus g++tmpsOf o.op∧rc.v=.gd b v) ∨
     (r=some false∧rc.us=gus g∧rc.v=.gd false (.tup [])∧rc.rd=[]∧rc.wr=[])):=by
  unfold opG at hg
  split at hg
  · cases hg
  · rename_i g hgt
    split at hg
    · cases hg
    · rename_i r hgv
      refine⟨g,r,hgt,hgv,?_⟩
      split at hg
      · rename_i c0 v rd wr hx
        split at hg
        · obtain⟨hb,hg⟩:=zn_ hg
          simp only[Option.some.injEq,Prod.mk.injEq]at hg
          obtain⟨rfl,rfl⟩:=hg
          rw[Bool.and_eq_true]at hb
          exact⟨hb.2,rfl,.inl ⟨c0,hx,rfl,rfl,hb.1,rfl⟩⟩
        · rename_i b
          obtain⟨hb,hg⟩:=zn_ hg
          simp only[Option.some.injEq,Prod.mk.injEq]at hg
          obtain⟨rfl,rfl⟩:=hg
          simp only[Bool.and_eq_true,Bool.or_eq_true]at hb
          have hG:b=false→allGone L.length wr=true:=fun e=>by
            rcases hb.1.2 with h|h
            · rw[e]at h;cases h
            · exact h
          exact⟨hb.2,rfl,.inr (.inl ⟨c0,b,v,hx,rfl,rfl,hb.1.1,hG,rfl,rfl⟩)⟩
      · split at hg
        · cases hg
        · rename_i b
          cases b with
          | true=>cases hg
          | false=>
            obtain⟨hb,hg⟩:=zn_ (show (bif dstOk N o.dst then _ else none)=_ from hg)
            simp only[Option.some.injEq,Prod.mk.injEq]at hg
            obtain⟨rfl,rfl⟩:=hg
            exact⟨hb,rfl,.inr (.inr ⟨rfl,rfl,rfl,rfl,rfl⟩)⟩
theorem stepG (hC:∀f S,C f=some S→zm_ P f S)(hT:TabOk P T){ops:Array Oper}{i:Nat}{o:Oper}{L:List HB}{N:Nat}{c:Prop}{r:Rc}(hi:ops[i]? = some o)(hg:opG T C N ops.toList φ L o=some (c,r))(hc:c)
  (R:Rep w0 M β h' w) (hrd:∀i∈r.rd,h' i=hp L i) (hwr:∀p∈r.wr,h' p.1=hp L p.1) (hF:∀t∈r.us,∀v,look φ t=some v→zb_ h' v∧a.tmps.getD t undef=v.den β) {K:Act→World→Prop} {Q:Exit→Act→World→Prop}
  (hK:∀β' w' u,(∀i,(h' i).born=true→β i = β' i)→(∀i,(h' i).born=true→(wrs h' r.wr i).born=true)→Rep w0 M β' (wrs h' r.wr) w'→zb_ (wrs h' r.wr) r.v→u=r.v.den β'→K (a.put o.dst u) w') :
  wpOp P ops Q i K a w:=by
 have run:∀{c0 v rd wr},opX T C (restr φ (tmpsOf o.op)) (hp L) L.length o.op=some (c0,v,rd,wr)→c0→(∀t∈tmpsOf o.op,∀v,look φ t=some v→zb_ h' v∧a.tmps.getD t undef=v.den β)→(∀i∈rd,h' i=hp L i)→(∀p∈wr,h' p.1=hp L p.1) →
   (∀β' w' u,(∀i,(h' i).born=true→β i = β' i)→Rep w0 M β' (wrs h' wr) w'→zb_ (wrs h' wr) v→u=v.den β'→K (a.put o.dst u) w')→o.wp P a w K Q:=by
  intro c0 v rd wr hx hc0 hF hrd hwr hK
  have X : Ctx P T w0 M β h' w (restr φ (tmpsOf o.op)) a := ⟨hT,R,fun t v hl=>by
   obtain⟨h1,h2⟩:=look_restr hl
   exact hF t h1 v h2⟩
  exact opX_ok hC X hx hc0 hrd hwr (fun i hi=>xy_ hi) hK
 obtain⟨g,r0,hgt,hgv,hd,hdst,hcase⟩:=opG_spec hg
 have hwant:(∀t∈gus g,t∈r.us)→Region.wanted o (yielded ops a.tmps)=r0.getD true:=fun hus=>wanted_gval hgt hgv fun t ht v hv=>(hF t (hus t ht) v hv).2
 unfold wpOp
 simp only[hi]
 rcases hcase with ⟨c0,hx,rfl,rfl,hb,hus⟩|⟨c0,b,v,hx,rfl,rfl,hb1,hb2,hus,hv⟩|⟨rfl,hus,hv,hrd0,hwr0⟩
 ·have hg0:g=none:=by
   cases g with
   | none=>rfl
   | some p=>
    obtain⟨t,want⟩:=p
    simp only[gval]at hgv
    split at hgv<;>simp at hgv
  subst hg0
  rw[hwant (fun t ht=>by cases ht)]
  simp only[Option.getD_none,if_true]
  rw[hus]at hF
  exact .inl (run hx hc hF hrd hwr fun β' w' u k1 k2 k3 k4=>hK β' w' u k1 (fun i hi=>wrs_born _ (allBorn_spec hb) hi) k2 k3 k4)
 ·rw[hwant (fun t ht=>by rw[hus];exact List.mem_append_left _ ht)]
  simp only[Option.getD_some]
  rw[hus]at hF
  rw[hv]at hK
  cases b with
  | true=>
   simp only[if_true]
   exact .inl (run hx (hc rfl) (fun t ht=>hF t (List.mem_append_right _ ht)) hrd hwr fun β' w' u k1 k2 k3 k4=>hK β' w' u k1 (fun i hi=>wrs_born _ (allBorn_spec hb1) hi) k2 (fun _=>k3) k4)
  | false=>
   simp only[Bool.false_eq_true,if_false]
   obtain⟨β',k1,k2⟩:=births R (hb2 rfl) (fun p hp=>.inl ((hwr p hp).trans (xy_ (allGone_ge (hb2 rfl) p hp))))
   exact hK β' w undef k1 (fun i hi=>wrs_born _ (allBorn_spec hb1) hi) k2 (fun h=>by cases h) rfl
 ·rw[hwant (fun t ht=>by rw[hus];exact ht)]
  simp only[Option.getD_some,Bool.false_eq_true,if_false]
  rw[hwr0,hv]at hK
  exact hK β w undef (fun _ _=>rfl) (fun i hi=>hi) R (fun h=>by cases h) rfl
end
end Go.Proofs.Ytmljmabbopkpiaa.Vm
namespace Go.Proofs.Ytmljmabbopkpiaa.Vm
open Go.RowKit
def pushF (φ : Fr)(r:Rc):Fr:=match r.dst with
 | some t=>(t,r.v) :: φ
 | none=>φ
def runR (T:Tab)(C:FuncId→Option y4_)(N:Nat)(ops:List Oper):Fr→List HB→List Oper→Option (Prop×List Rc×Fr×List HB)
 | φ,L,[]=>some (True,[],φ,L)
 | φ,L,o::l=>match opG T C N ops φ L o with
  | some (c,r)=>match runR T C N ops (pushF φ r) (wrsL L r.wr) l with
   | some (d,rs,φ',L')=>some (c∧d,r::rs,φ',L')
   | none=>none
  | none=>none
structure St (w0:World) (M:Nat→Prop) (E:Env) (n0:Nat) (N:Nat) (D:List Deferred) (φ : Fr) (L:List HB) (a:Act) (w:World):Prop where
 ex:∃β,(∀i,i < n0→β i=E i)∧Rep w0 M β (hp L) w∧Fits β (hp L) φ a
 born:∀i,i < n0→(hp L i).born=true
 size:a.tmps.size=N
 defers:a.defers=D
theorem dstOk_spec {N:Nat}{d:Option Tmp}(h:dstOk N d=true):∀t,d=some t→t < N:=by
 rintro t rfl
 simp only[dstOk]at h
 exact Nat.le_of_ble_eq_true h
theorem opG_dst {T:Tab}{C:FuncId→Option y4_}{N:Nat}{ops:List Oper}{φ : Fr}{L:List HB}{o:Oper}{c:Prop}{r:Rc}(h:opG T C N ops φ L o=some (c,r)):r.dst=o.dst∧∀t,o.dst=some t→t < N:=by
 obtain⟨g,r0,_,_,hd,hdst,_⟩:=opG_spec h
 exact⟨hdst,dstOk_spec hd⟩
theorem put_get {a:Act}{d:Option Tmp}{u:Value}{N t:Nat}(hN:a.tmps.size=N)(hd:∀t,d=some t→t < N):(a.put d u).tmps.getD t undef=if d=some t then u else a.tmps.getD t undef:=by
 cases d with
 | none=>rfl
 | some s=>
  have hs:=hd s rfl
  simp only[Act.put,Array.getD_eq_getD_getElem?]
  by_cases h:s=t
  ·subst h;simp[hN,hs]
  ·rw[Array.getElem?_setIfInBounds_ne h];simp[h]
theorem put_size {a:Act}{d:Option Tmp}{u:Value}:(a.put d u).tmps.size=a.tmps.size:=by cases d<;>simp[Act.put]
theorem put_defers {a:Act}{d:Option Tmp}{u:Value}:(a.put d u).defers=a.defers:=by cases d<;>rfl
section
variable {P:Program} {T:Tab} {C:FuncId→Option y4_} {w0 w:World} {M:Nat→Prop} {E:Env} {n0 N:Nat} {D:List Deferred} {φ φ':Fr} {L L':List HB} {a:Act}
theorem look_push {r:Rc}{t:Tmp}:look (pushF φ r) t=if r.dst=some t then some r.v else look φ t:=by
 unfold pushF
 cases hd:r.dst with
 | none=>simp
 | some s=>
  simp only[look,Option.some.injEq]
  by_cases h:s=t
  ·subst h;simp
  ·have:Nat.beq s t=false:=by
    cases hb:Nat.beq s t with
    | false=>rfl
    | true=>exact absurd (Nat.eq_of_beq_eq_true hb) h
   simp[this,h]
theorem wpOps_seg (hC:∀f S,C f=some S→zm_ P f S)(hT:TabOk P T){ops:Array Oper}{Q:Exit→Act→World→Prop}:∀{l:List Oper} {k:Nat} {φ : Fr} {L:List HB} {a:Act} {w:World} {c:Prop} {rs:List Rc} {rest:List Oper},
  ops.toList.drop k=l++rest→runR T C N ops.toList φ L l=some (c,rs,φ',L')→c→St w0 M E n0 N D φ L a w→(∀a w,St w0 M E n0 N D φ' L' a w→Q .normal a w)→wpOps P ops Q (List.range' k l.length) a w:=by
 intro l
 induction l with
 | nil=>
  intro k φ L a w c rs rest hl hr hc hS hQ
  simp only[runR,Option.some.injEq,Prod.mk.injEq]at hr
  obtain⟨_,_,rfl,rfl⟩:=hr
  exact hQ a w hS
 | cons o l ih=>
  intro k φ L a w c rs rest hl hr hc hS hQ
  simp only[runR]at hr
  split at hr
  ·rename_i c1 r hg
   split at hr
   ·rename_i d rs' φ'' L'' hr'
    simp only[Option.some.injEq,Prod.mk.injEq]at hr
    obtain⟨rfl,rfl,rfl,rfl⟩:=hr
    have hk:ops[k]? = some o:=by
     rw[←Array.getElem?_toList]
     have:=congrArg (fun l=>l[0]?) hl
     simpa using this
    have hl':ops.toList.drop (k+1)=l++rest:=by
     have:=congrArg (fun l=>l.drop 1) hl
     simpa [List.drop_drop,Nat.add_comm]using this
    obtain⟨⟨β,hE,R,F⟩,hbn,hsz,hdf⟩:=hS
    rw[List.length_cons,List.range'_succ,wpOps_cons]
    refine stepG hC hT hk hg hc.1 R (fun _ _=>rfl) (fun _ _=>rfl) (fun t _ v hv=>F t v hv) fun β' w' u k1 k2 k3 k4 k5=>?_
    have hpe:hp (wrsL L r.wr)=wrs (hp L) r.wr:=hp_wrsL _ _
    obtain⟨hd1,hd2⟩:=opG_dst hg
    refine ih hl' hr' hc.2 ⟨⟨β',fun i hi=>?_,by rw[hpe];exact k3,fun t v hv=>?_⟩,fun i hi=>by rw[hpe];exact k2 i (hbn i hi),by rw[put_size];exact hsz,by rw[put_defers];exact hdf⟩ hQ
    ·rw[←k1 i (hbn i hi)];exact hE i hi
    ·exact d13_
   ·cases hr
  ·cases hr
theorem wpOps_run (hC:∀f S,C f=some S→zm_ P f S)(hT:TabOk P T){ops:Array Oper}{Q:Exit→Act→World→Prop}:∀{l:List Oper} {k:Nat} {φ : Fr} {L:List HB} {a:Act} {w:World} {c:Prop} {rs:List Rc},
  ops.toList.drop k=l→runR T C N ops.toList φ L l=some (c,rs,φ',L')→c→St w0 M E n0 N D φ L a w→(∀a w,St w0 M E n0 N D φ' L' a w→Q .normal a w)→wpOps P ops Q (List.range' k l.length) a w:=by
 intro l
 induction l with
 | nil=>
  intro k φ L a w c rs hl hr hc hS hQ
  simp only[runR,Option.some.injEq,Prod.mk.injEq]at hr
  obtain⟨_,_,rfl,rfl⟩:=hr
  exact hQ a w hS
 | cons o l ih=>
  intro k φ L a w c rs hl hr hc hS hQ
  simp only[runR]at hr
  split at hr
  ·rename_i c1 r hg
   split at hr
   ·rename_i d rs' φ'' L'' hr'
    simp only[Option.some.injEq,Prod.mk.injEq]at hr
    obtain⟨rfl,rfl,rfl,rfl⟩:=hr
    have hk:ops[k]? = some o:=by
     rw[←Array.getElem?_toList]
     have:=congrArg (fun l=>l[0]?) hl
     simpa using this
    have hl':ops.toList.drop (k+1)=l:=by
     have:=congrArg (fun l=>l.drop 1) hl
     simpa [List.drop_drop,Nat.add_comm]using this
    obtain⟨⟨β,hE,R,F⟩,hbn,hsz,hdf⟩:=hS
    rw[List.length_cons,List.range'_succ,wpOps_cons]
    refine stepG hC hT hk hg hc.1 R (fun _ _=>rfl) (fun _ _=>rfl) (fun t _ v hv=>F t v hv) fun β' w' u k1 k2 k3 k4 k5=>?_
    have hpe:hp (wrsL L r.wr)=wrs (hp L) r.wr:=hp_wrsL _ _
    obtain⟨hd1,hd2⟩:=opG_dst hg
    refine ih hl' hr' hc.2 ⟨⟨β',fun i hi=>?_,by rw[hpe];exact k3,fun t v hv=>?_⟩,fun i hi=>by rw[hpe];exact k2 i (hbn i hi),by rw[put_size];exact hsz,by rw[put_defers];exact hdf⟩ hQ
    ·rw[←k1 i (hbn i hi)];exact hE i hi
    ·exact d13_
   ·cases hr
  ·cases hr
theorem wp_region_run (hC:∀f S,C f=some S→zm_ P f S)(hT:TabOk P T){id:Nat}{ops:Array Oper}{Q:Exit→Act→World→Prop}{c:Prop}{rs:List Rc}(hr:runR T C N ops.toList φ L ops.toList=some (c,rs,φ',L'))(hc:c)(hS:St w0 M E n0 N D φ L a w)
  (hQ:∀a w,St w0 M E n0 N D φ' L' a w→Q .normal a w):(Code.region id ops false).wp P Q a w:=by
 refine wp_region ?_
 have:=wpOps_run (k:=0) hC hT rfl hr hc hS hQ
 rw[Array.length_toList]at this
 rw[List.range_eq_range']
 exact this
end
end Go.Proofs.Ytmljmabbopkpiaa.Vm
namespace Go.Proofs.Ytmljmabbopkpiaa.Vm
open Go.RowKit
abbrev Rcs:=Nat→Option Rc
def lkS (l0:Nat→Option SV)(rs:Rcs)(S:Nat→Bool):Nat→Nat→Option SV
 | 0,t=>l0 t
 | n+1,t=>match rs n with
  | some r=>if S n=true∧r.dst=some t then some r.v else lkS l0 rs S n t
  | none=>lkS l0 rs S n t
def heS (h0:HM)(rs:Rcs)(S:Nat→Bool):Nat→HM
 | 0=>h0
 | n+1=>match rs n with
  | some r=>if S n=true then wrs (heS h0 rs S n) r.wr else heS h0 rs S n
  | none=>heS h0 rs S n
section
variable {l0:Nat→Option SV} {h0:HM} {rs:Rcs} {S S2:Nat→Bool}
theorem lkS_congr {t:Nat}:∀{n:Nat},(∀j r,j < n→rs j=some r→r.dst=some t→S j=S2 j)→lkS l0 rs S n t=lkS l0 rs S2 n t
 | 0,_=>rfl
 | n+1,h=>by
  have ih:=lkS_congr (n:=n) fun j r hj=>h j r (by omega)
  simp only[lkS]
  cases hr:rs n with
  | none=>exact ih
  | some r=>
   simp only
   by_cases hd:r.dst=some t
   ·rw[h n r (by omega) hr hd,ih]
   ·simp only[hd,and_false,if_false];exact ih
theorem heS_congr {i:Nat}:∀{n:Nat},(∀j r,j < n→rs j=some r→i∈r.wr.map (·.1)→S j=S2 j)→heS h0 rs S n i=heS h0 rs S2 n i
 | 0,_=>rfl
 | n+1,h=>by
  have ih:=heS_congr (n:=n) fun j r hj=>h j r (by omega)
  simp only[heS]
  cases hr:rs n with
  | none=>exact ih
  | some r=>
   simp only
   by_cases hd:i∈r.wr.map (·.1)
   ·rw[h n r (by omega) hr hd]
    split
    ·exact wrs_in _ hd
    ·exact ih
   ·split<;>split<;>(try simp only[wrs_out _ hd])<;>exact ih
theorem lkS_cut {t:Nat}{k:Nat}:∀{n:Nat},k≤n→lkS l0 rs (fun j=>decide (j < k)) n t=lkS l0 rs (fun _=>true) k t
 | 0,h=>by
  have:k=0:=by omega
  subst this;rfl
 | n+1,h=>by
  by_cases hk:k=n+1
  ·subst hk
   exact lkS_congr fun j r hj _ _=>by simp[hj]
  ·have ih:=lkS_cut (t:=t) (n:=n) (by omega:k≤n)
   have hn:decide (n < k)=false:=by simp;omega
   simp only[lkS]
   cases hr:rs n with
   | none=>exact ih
   | some r=>simp only[hn,Bool.false_eq_true,false_and,if_false];exact ih
theorem heS_cut {i:Nat}{k:Nat}:∀{n:Nat},k≤n→heS h0 rs (fun j=>decide (j < k)) n i=heS h0 rs (fun _=>true) k i
 | 0,h=>by
  have:k=0:=by omega
  subst this;rfl
 | n+1,h=>by
  by_cases hk:k=n+1
  ·subst hk
   exact heS_congr fun j r hj _ _=>by simp[hj]
  ·have ih:=heS_cut (i:=i) (n:=n) (by omega:k≤n)
   have hn:decide (n < k)=false:=by simp;omega
   simp only[heS]
   cases hr:rs n with
   | none=>exact ih
   | some r=>simp only[hn,Bool.false_eq_true,if_false];exact ih
theorem lkS_at {t k:Nat}{r:Rc}(hr:rs k=some r)(hd:r.dst=some t)(hS:S k=true):∀{n:Nat},k < n→(∀j r',k < j→j < n→rs j=some r'→r'.dst=some t→S j=false)→lkS l0 rs S n t=some r.v
 | 0,h,_=>by omega
 | n+1,h,hl=>by
  simp only[lkS]
  by_cases hk:k=n
  ·subst hk
   simp[hr,hS,hd]
  ·have ih:=lkS_at hr hd hS (n:=n) (by omega) fun j r' h1 h2=>hl j r' h1 (by omega)
   cases hr':rs n with
   | none=>exact ih
   | some r'=>
    simp only
    by_cases hd':r'.dst=some t
    ·simp only[hl n r' (by omega) (by omega) hr' hd',Bool.false_eq_true,false_and,if_false];exact ih
    ·simp only[hd',and_false,if_false];exact ih
theorem heS_at {i k:Nat}{r:Rc}{g:HM}(hr:rs k=some r)(hd:i∈r.wr.map (·.1))(hS:S k=true):∀{n:Nat},k < n→(∀j r',k < j→j < n→rs j=some r'→i∈r'.wr.map (·.1)→S j=false)→heS h0 rs S n i=wrs g r.wr i
 | 0,h,_=>by omega
 | n+1,h,hl=>by
  simp only[heS]
  by_cases hk:k=n
  ·subst hk
   simp only[hr,hS,if_true]
   exact wrs_in _ hd
  ·have ih:=heS_at (g:=g) hr hd hS (n:=n) (by omega) fun j r' h1 h2=>hl j r' h1 (by omega)
   cases hr':rs n with
   | none=>exact ih
   | some r'=>
    simp only
    by_cases hd':i∈r'.wr.map (·.1)
    ·simp only[hl n r' (by omega) (by omega) hr' hd',Bool.false_eq_true,if_false];exact ih
    ·split
     ·rw[wrs_out _ hd'];exact ih
     ·exact ih
theorem lkS_shift {r:Rc}{l:List Rc}{t:Nat}:∀{n:Nat},lkS l0 (fun j=>(r::l)[j]?) (fun _=>true) (n+1) t=lkS (fun t=>if r.dst=some t then some r.v else l0 t) (fun j=>l[j]?) (fun _=>true) n t
 | 0=>by simp[lkS]
 | n+1=>by
  rw[lkS,lkS_shift (n:=n)]
  simp only[List.getElem?_cons_succ,lkS]
theorem heS_shift {r:Rc}{l:List Rc}:∀{n:Nat},heS h0 (fun j=>(r::l)[j]?) (fun _=>true) (n+1)=heS (wrs h0 r.wr) (fun j=>l[j]?) (fun _=>true) n
 | 0=>by simp[heS]
 | n+1=>by
  rw[heS,heS_shift (n:=n)]
  simp only[List.getElem?_cons_succ,heS]
end
def edges (o:Oper):List Nat:=(o.after.toList.filter (Region.binds .any)).map (·.on)
def maskOf (acc:List Nat):List Nat→Nat
 | []=>0
 | e::es=>(2 ^ e ||| acc.getD e 0) ||| maskOf acc es
def ancs:List Oper→List Nat→List Nat
 | [],acc=>acc
 | o::l,acc=>ancs l (acc++[maskOf acc (edges o)])
theorem maskOf_spec {acc:List Nat}{S:Nat→Bool}(hacc:∀j m,acc[j]? = some m→S j=true→∀b,m.testBit b=true→S b=true):∀{es:List Nat},(∀e∈es,S e=true)→∀b,(maskOf acc es).testBit b=true→S b=true
 | [],_,b,hb=>by simp[maskOf]at hb
 | e::es,he,b,hb=>by
  simp only[maskOf,Nat.testBit_or,Bool.or_eq_true]at hb
  rcases hb with (hb|hb)|hb
  ·rw[Nat.testBit_two_pow]at hb
   have:e=b:=by simpa using hb
   subst this
   exact he e (.head _)
  ·rw[List.getD_eq_getElem?_getD]at hb
   cases hm:acc[e]? with
   | none=>rw[hm]at hb;simp at hb
   | some m=>rw[hm]at hb;exact hacc e m hm (he e (.head _)) b hb
  ·exact maskOf_spec hacc (fun e' h'=>he e' (.tail _ h')) b hb
theorem ancs_spec {S:Nat→Bool}:∀{l:List Oper} {acc:List Nat},(∀j m,acc[j]? = some m→S j=true→∀b,m.testBit b=true→S b=true)→(∀j o,l[j]? = some o→S (acc.length+j)=true→∀e∈edges o,S e=true) →
  (∀j m,(ancs l acc)[j]? = some m→S j=true→∀b,m.testBit b=true→S b=true)∧(∀j o,l[j]? = some o→(∀e∈edges o,S e=true)→∀m,(ancs l acc)[acc.length+j]? = some m→∀b,m.testBit b=true→S b=true)∧(ancs l acc).length=acc.length+l.length∧(∀j,j < acc.length→(ancs l acc)[j]? = acc[j]?)
 | [],acc,hacc,hl=>⟨hacc,fun j o hj=>by simp at hj,by simp[ancs],fun _ _=>rfl⟩
 | o::l,acc,hacc,hl=>by
  have hmask:(∀e∈edges o,S e=true)→∀b,(maskOf acc (edges o)).testBit b=true→S b=true:=fun he=>maskOf_spec hacc he
  have hacc':∀j m,(acc++[maskOf acc (edges o)])[j]? = some m→S j=true→∀b,m.testBit b=true→S b=true:=fun j m hj hS=>by
   rcases Nat.lt_trichotomy j acc.length with h|h|h
   ·rw[List.getElem?_append_left h]at hj;exact hacc j m hj hS
   ·subst h
    simp at hj
    subst hj
    exact hmask (hl 0 o rfl hS)
   ·rw[List.getElem?_append_right (by omega),List.getElem?_eq_none (by simp;omega)]at hj;cases hj
  obtain⟨i1,i2,i3,i4⟩:=ancs_spec (l:=l) (acc:=acc++[maskOf acc (edges o)]) hacc' (fun j o' hj hS=>hl (j+1) o' hj (by rw[List.length_append]at hS;simp at hS;rwa [Nat.add_assoc,Nat.add_comm 1 j]at hS))
  refine⟨i1,fun j o' hj he m hm=>?_,by show (ancs l _).length=_;rw[i3];simp;omega,fun j hj=>by show (ancs l _)[j]? = _;rw[i4 j (by simp;omega),List.getElem?_append_left hj]⟩
  cases j with
  | zero=>
   simp at hj
   subst hj
   have:(ancs l (acc++[maskOf acc (edges o)]))[acc.length]? = some m:=hm
   rw[i4 _ (by simp)]at this
   simp at this
   subst this
   exact hmask he
  | succ j=>
   refine i2 j o' hj he m ?_
   show (ancs l _)[_]? = _
   rw[List.length_append]
   have:(ancs l (acc++[maskOf acc (edges o)]))[acc.length+(j+1)]? = some m:=hm
   rw[←this];congr 1;simp;omega
def memN (t:Nat):List Nat→Bool
 | []=>false
 | x::l=>Nat.beq x t || memN t l
theorem memN_iff {t:Nat}{l:List Nat}:memN t l=true↔t∈l:=by
 induction l with
 | nil=>simp[memN]
 | cons x l ih=>
  simp only[memN,Bool.or_eq_true,ih,List.mem_cons]
  constructor
  ·rintro (h|h)
   ·exact .inl (Nat.eq_of_beq_eq_true h).symm
   ·exact .inr h
  ·rintro (h|h)
   ·subst h;exact .inl (Nat.beq_refl t)
   ·exact .inr h
def apartL (l m:List Nat):Bool:=match l with
 | []=>true
 | x::l=>!memN x m && apartL l m
theorem apartL_spec {l m:List Nat}(h:apartL l m=true):∀x∈l,x ∉ m:=by
 induction l with
 | nil=>intro x hx;cases hx
 | cons y l ih=>
  simp only[apartL,Bool.and_eq_true]at h
  intro x hx
  rcases List.mem_cons.1 hx with rfl|hx
  ·intro hm
   have:=memN_iff.2 hm
   rw[this]at h
   exact absurd h.1 (by simp)
  ·exact ih h.2 x hx
def ids:List (Nat×HB)→List Nat
 | []=>[]
 | p::l=>p.1::ids l
theorem ids_eq (l:List (Nat×HB)):ids l=l.map (·.1):=by induction l with
 | nil=>rfl
 | cons p l ih=>simp[ids,ih]
def dstL:Option Tmp→List Nat
 | some t=>[t]
 | none=>[]
def pairOk (a b:Rc):Bool:=apartL (dstL a.dst) (dstL b.dst++b.us) && apartL (dstL b.dst) a.us && apartL (ids a.wr) (ids b.wr++b.rd) && apartL (ids b.wr) a.rd
structure Apart (a b:Rc):Prop where
 d1:∀t,a.dst=some t→b.dst≠some t
 d2:∀t,a.dst=some t→t ∉ b.us
 d3:∀t,b.dst=some t→t ∉ a.us
 w1:∀i,i∈a.wr.map (·.1)→i ∉ b.wr.map (·.1)
 w2:∀i,i∈a.wr.map (·.1)→i ∉ b.rd
 w3:∀i,i∈b.wr.map (·.1)→i ∉ a.rd
theorem pairOk_spec {a b:Rc}(h:pairOk a b=true):Apart a b:=by
 simp only[pairOk,Bool.and_eq_true,ids_eq]at h
 obtain⟨⟨⟨h1,h2⟩,h3⟩,h4⟩:=h
 have h1:=apartL_spec h1
 have h2:=apartL_spec h2
 have h3:=apartL_spec h3
 have h4:=apartL_spec h4
 refine ⟨fun t ha hb=>h1 t (by rw[ha];exact .head _) (List.mem_append_left _ (by rw[hb];exact .head _)),fun t ha hb=>h1 t (by rw[ha];exact .head _) (List.mem_append_right _ hb),
  fun t ha=>h2 t (by rw[ha];exact .head _),fun i hi hj=>h3 i hi (List.mem_append_left _ hj),fun i hi hj=>h3 i hi (List.mem_append_right _ hj),fun i hi=>h4 i hi⟩
def apartRow (m:Nat)(r:Rc):List Rc→Nat→Bool
 | [],_=>true
 | x::l,j=>(m.testBit j || pairOk x r) && apartRow m r l (j+1)
def apartR:List Rc→List Nat→List Rc→Bool
 | [],_,_=>true
 | r::l,an,seen=>match an with
  | m::an=>apartRow m r seen 0 && apartR l an (seen++[r])
  | []=>false
theorem apartRow_spec {m:Nat}{r:Rc}:∀{l:List Rc} {j:Nat},apartRow m r l j=true→∀k x,l[k]? = some x→m.testBit (j+k)=true∨Apart x r
 | [],j,h,k,x,hk=>by simp at hk
 | y::l,j,h,k,x,hk=>by
  simp only[apartRow,Bool.and_eq_true,Bool.or_eq_true]at h
  cases k with
  | zero=>
   simp at hk
   subst hk
   exact h.1.imp id pairOk_spec
  | succ k=>
   have:=apartRow_spec h.2 k x hk
   rwa [Nat.add_assoc,Nat.add_comm 1 k]at this
theorem apartR_spec:∀{l:List Rc} {an:List Nat} {seen:List Rc},apartR l an seen=true→∀k r,l[k]? = some r→∃m,an[k]? = some m∧∀j x,(seen++l)[j]? = some x→j < seen.length+k→m.testBit j=true∨Apart x r
 | [],an,seen,h,k,r,hk=>by simp at hk
 | y::l,an,seen,h,k,r,hk=>by
  cases an with
  | nil=>simp[apartR]at h
  | cons m an=>
   simp only[apartR,Bool.and_eq_true]at h
   cases k with
   | zero=>
    simp at hk
    subst hk
    refine⟨m,rfl,fun j x hj hlt=>?_⟩
    have:=apartRow_spec h.1 j x (by rw[List.getElem?_append_left (by omega)]at hj;exact hj)
    rwa [Nat.zero_add]at this
   | succ k=>
    obtain⟨m',h1,h2⟩:=apartR_spec h.2 k r hk
    refine⟨m',h1,fun j x hj hlt=>h2 j x (by simpa using hj) (by simp;omega)⟩
end Go.Proofs.Ytmljmabbopkpiaa.Vm
namespace Go.Proofs.Ytmljmabbopkpiaa.Vm
open Go.RowKit
def topoL:List Oper→Nat→Bool
 | [],_=>true
 | o::l,k=>(edges o).all (fun e=>Nat.blt e k) && topoL l (k+1)
theorem topoL_spec:∀{l:List Oper} {k j:Nat} {o:Oper},topoL l k=true→l[j]? = some o→∀e∈edges o,e < k+j
 | [],k,j,o,h,hj=>by simp at hj
 | x::l,k,j,o,h,hj=>by
  simp only[topoL,Bool.and_eq_true]at h
  cases j with
  | zero=>
   simp at hj
   subst hj
   intro e he
   exact Nat.le_of_ble_eq_true (List.all_eq_true.1 h.1 e he)
  | succ j=>
   have:=topoL_spec h.2 hj
   intro e he
   have:=this e he
   omega
def regionOk (ops:List Oper)(rs:List Rc):Bool:=topoL ops 0 && apartR rs (ancs ops []) []
section
variable {P:Program} {T:Tab} {C:FuncId→Option y4_} {w0 w:World} {M:Nat→Prop} {E:Env} {n0 N:Nat} {D:List Deferred} {φ φ':Fr} {L L':List HB} {a:Act}
theorem runR_spec {ops:List Oper}:∀{l:List Oper} {φ : Fr} {L:List HB} {c:Prop} {rs:List Rc},runR T C N ops φ L l=some (c,rs,φ',L') →
  rs.length=l.length∧(∀t,look φ' t=lkS (look φ) (fun j=>rs[j]?) (fun _=>true) rs.length t)∧hp L'=heS (hp L) (fun j=>rs[j]?) (fun _=>true) rs.length ∧
  ∀k o,l[k]? = some o→∃r φk Lk ck,rs[k]? = some r∧opG T C N ops φk Lk o=some (ck,r)∧(c→ck)∧(∀t,look φk t=lkS (look φ) (fun j=>rs[j]?) (fun _=>true) k t)∧hp Lk=heS (hp L) (fun j=>rs[j]?) (fun _=>true) k:=by
 intro l
 induction l with
 | nil=>
  intro φ L c rs hr
  simp only[runR,Option.some.injEq,Prod.mk.injEq]at hr
  obtain⟨_,rfl,rfl,rfl⟩:=hr
  exact⟨rfl,fun _=>rfl,rfl,fun k o hk=>by simp at hk⟩
 | cons o l ih=>
  intro φ L c rs hr
  simp only[runR]at hr
  split at hr
  ·rename_i c1 r hg
   split at hr
   ·rename_i d rs' φ'' L'' hr'
    simp only[Option.some.injEq,Prod.mk.injEq]at hr
    obtain⟨rfl,rfl,rfl,rfl⟩:=hr
    obtain⟨i1,i2,i3,i4⟩:=ih hr'
    have e1:look (pushF φ r)=fun t=>if r.dst=some t then some r.v else look φ t:=funext fun t=>look_push
    refine⟨by simp[i1],fun t=>?_,?_,fun k o' hk=>?_⟩
    ·rw[i2 t,List.length_cons,lkS_shift,e1]
    ·rw[i3,List.length_cons,heS_shift,hp_wrsL]
    ·cases k with
     | zero=>
      simp at hk
      subst hk
      exact⟨r,φ,L,c1,rfl,hg,fun h=>h.1,fun _=>rfl,rfl⟩
     | succ k=>
      obtain⟨r',φk,Lk,ck,j1,j2,j3,j4,j5⟩:=i4 k o' hk
      refine⟨r',φk,Lk,ck,j1,j2,fun h=>j3 h.2,fun t=>?_,?_⟩
      ·rw[j4 t,lkS_shift,e1]
      ·rw[j5,heS_shift,hp_wrsL]
   ·cases hr
  ·cases hr
theorem wpAny_inv {ops:Array Oper}{Q:Exit→Act→World→Prop}{I:Array Bool→Act→World→Prop}
  (hsize:∀listed a w,I listed a w→listed.size=ops.size)
  (hstep:∀listed a w i,I listed a w→i∈Region.ready .any ops listed→wpOp P ops Q i (I (listed.setIfInBounds i true)) a w) (hend:∀listed a w,I listed a w→Region.ready .any ops listed=[]→Q .normal a w) :
  ∀(fuel:Nat) (listed:Array Bool) (a:Act) (w:World),(listed.toList.filter (!·)).length≤fuel→I listed a w→wpAny P .any ops Q fuel listed a w
 | 0,listed,a,w,hf,hI=>by
  have hr:Region.ready .any ops listed=[]:=by
   apply List.eq_nil_iff_forall_not_mem.2
   intro j hj
   obtain⟨h1,_⟩:=mem_ready.1 hj
   have hlt:j < listed.size:=by
    rcases Nat.lt_or_ge j listed.size with h|h
    ·exact h
    ·simp[Array.getD_eq_getD_getElem?,Array.getElem?_eq_none h]at h1
   have hm:false∈listed.toList.filter (!·):=by
    refine List.mem_filter.2 ⟨?_,rfl⟩
    rw[Array.getD_eq_getD_getElem?,Array.getElem?_eq_getElem hlt]at h1
    simp at h1
    rw[←h1]
    simp
   rw[List.eq_nil_of_length_eq_zero (Nat.le_zero.1 hf)]at hm
   cases hm
  exact⟨hr,hend _ _ _ hI hr⟩
 | fuel+1,listed,a,w,hf,hI=>by
  refine⟨fun hr=>hend _ _ _ hI hr,fun i hi=>?_⟩
  refine wpOp_mono (fun a' w' hI'=>wpAny_inv hsize hstep hend fuel _ a' w' ?_ hI') (hstep _ _ _ i hI hi)
  obtain⟨h1,_⟩:=mem_ready.1 hi
  have hlt:i < listed.size:=by
   rcases Nat.lt_or_ge i listed.size with h|h
   ·exact h
   ·simp[Array.getD_eq_getD_getElem?,Array.getElem?_eq_none h]at h1
  have hv:listed.toList[i]? = some false:=by
   rw[Array.getD_eq_getD_getElem?,Array.getElem?_eq_getElem hlt]at h1
   simp at h1
   rw[Array.getElem?_toList,Array.getElem?_eq_getElem hlt,h1]
  have key:∀(l:List Bool) (i:Nat),l[i]? = some false→((l.set i true).filter (!·)).length+1=(l.filter (!·)).length:=by
   intro l
   induction l with
   | nil=>intro i h;simp at h
   | cons x l ih=>
    intro i h
    cases i with
    | zero=>simp at h;subst h;simp
    | succ i=>
     have:=ih i (by simpa using h)
     cases x<;>simp[List.set_cons_succ]<;>omega
  have:=key _ _ hv
  rw[Array.toList_setIfInBounds]
  omega
structure Inv (w0:World) (M:Nat→Prop) (E:Env) (n0 N:Nat) (D:List Deferred) (ops:Array Oper) (l0:Nat→Option SV) (h0:HM) (rs:List Rc) (listed:Array Bool) (a:Act) (w:World):Prop where
 sz:listed.size=ops.size
 closed:∀j o,ops[j]? = some o→listed.getD j false=true→∀e∈edges o,listed.getD e false=true
 ex:∃β,(∀i,i < n0→β i=E i)∧Rep w0 M β (heS h0 (fun j=>rs[j]?) (fun j=>listed.getD j false) rs.length) w ∧
  ∀t v,lkS l0 (fun j=>rs[j]?) (fun j=>listed.getD j false) rs.length t=some v→zb_ (heS h0 (fun j=>rs[j]?) (fun j=>listed.getD j false) rs.length) v∧a.tmps.getD t undef=v.den β
 born:∀i,i < n0→(heS h0 (fun j=>rs[j]?) (fun j=>listed.getD j false) rs.length i).born=true
 size:a.tmps.size=N
 defers:a.defers=D
theorem mem_edges {o:Oper}{e:Nat}:e∈edges o↔∃x∈o.after,Region.binds .any x=true∧x.on=e:=by
 simp[edges,List.mem_map,List.mem_filter,and_assoc]
theorem wpAny_drawn (hm:P.follows .mixedOrders=true)(hC:∀f S,C f=some S→zm_ P f S)(hT:TabOk P T){ops:Array Oper}{Q:Exit→Act→World→Prop}{c:Prop}{rs:List Rc}(hr:runR T C N ops.toList φ L ops.toList=some (c,rs,φ',L'))(hok:regionOk ops.toList rs=true)(hc:c)
  (hS:St w0 M E n0 N D φ L a w) (hQ:∀a w,St w0 M E n0 N D φ' L' a w→Q .normal a w):wpAny P .any ops Q ops.size (Array.replicate ops.size false) a { w with drawn:=w.drawn+1 }:=by
 simp only[regionOk,Bool.and_eq_true]at hok
 obtain⟨htopo,hap⟩:=hok
 obtain⟨hlen,hφ',hL',hops⟩:=runR_spec hr
 have hlen:rs.length=ops.size:=hlen.trans (Array.length_toList)
 refine wpAny_inv (I:=Inv w0 M E n0 N D ops (look φ) (hp L) rs) (fun _ _ _ h=>h.sz) ?step ?fin _ _ _ _ (by rw[Array.toList_replicate];simp) ?start
 case start=>
  obtain⟨⟨β,hE,R,F⟩,hbn,hsz,hdf⟩:=hS
  have e0:(fun j=>(Array.replicate ops.size false).getD j false)=fun _=>false:=funext fun j=>by
   rw[Array.getD_eq_getD_getElem?]
   rcases Nat.lt_or_ge j ops.size with h|h
   ·simp[h]
   ·simp[Array.getElem?_eq_none,h]
  have eh:∀n,heS (hp L) (fun j=>rs[j]?) (fun _=>false) n=hp L:=fun n=>by
   induction n with
   | zero=>rfl
   | succ n ih=>simp only[heS];split<;>simp[ih]
  have el:∀n t,lkS (look φ) (fun j=>rs[j]?) (fun _=>false) n t=look φ t:=fun n t=>by
   induction n with
   | zero=>rfl
   | succ n ih=>simp only[lkS];split<;>simp[ih]
  refine⟨by simp,fun j o _ hj=>?_,⟨β,hE,?_,?_⟩,?_,hsz,hdf⟩
  ·rw[congrFun e0 j]at hj;cases hj
  ·rw[e0,eh];exact R.drawn
  ·rw[e0]
   intro t v hv
   rw[el]at hv
   rw[eh]
   exact F t v hv
  ·rw[e0,eh];exact hbn
 case fin=>
  intro listed a w hI hr0
  have hall:∀k,k < ops.size→listed.getD k false=true:=by
   intro k
   induction k using Nat.strongRecOn with
   | _ k ih=>
    intro hk
    cases hb:listed.getD k false with
    | true=>rfl
    | false=>
     exfalso
     have hk':k < listed.size:=by rw[hI.sz];exact hk
     have hmem:k∈Region.ready .any ops listed:=by
      refine mem_ready.2 ⟨?_,ops[k],by simp[hk],fun e he hbd=>?_⟩
      ·rw[Array.getD_eq_getD_getElem?,Array.getElem?_eq_getElem hk']at hb ⊢
       exact hb
      ·have hed:e.on∈edges ops[k]:=mem_edges.2 ⟨e,by simpa using he,hbd,rfl⟩
       have hlt:=topoL_spec (k:=0) (j:=k) (o:=ops[k]) htopo (by simp[hk]) _ hed
       rw[Nat.zero_add]at hlt
       exact ih e.on hlt (by omega)
     rw[hr0]at hmem
     cases hmem
  obtain⟨β,hE,R,F⟩:=hI.ex
  have eh:heS (hp L) (fun j=>rs[j]?) (fun j=>listed.getD j false) rs.length=hp L':=by
   rw[hL']
   funext i
   exact heS_congr fun j r hj _ _=>hall j (by omega)
  have el:∀t,lkS (look φ) (fun j=>rs[j]?) (fun j=>listed.getD j false) rs.length t=look φ' t:=fun t=>by
   rw[hφ' t]
   exact lkS_congr fun j r hj _ _=>hall j (by omega)
  refine hQ a w ⟨⟨β,hE,by rw[←eh];exact R,fun t v hv=>?_⟩,fun i hi=>by rw[←eh];exact hI.born i hi,hI.size,hI.defers⟩
  rw[←el]at hv
  rw[←eh]
  exact F t v hv
 case step=>
  intro listed a w k hI hk
  obtain⟨hun,o,ho,hpre⟩:=mem_ready.1 hk
  have hklt:k < ops.size:=(Array.getElem?_eq_some_iff.1 ho).1
  have hkl:k < listed.size:=by rw[hI.sz];exact hklt
  have hkn:listed.getD k false=false:=by
   rw[Array.getD_eq_getD_getElem?,Array.getElem?_eq_getElem hkl]at hun ⊢
   exact hun
  obtain⟨r,φk,Lk,ck,hrk,hg,hck,hφk,hLk⟩:=hops k o (by rw[Array.getElem?_toList];exact ho)
  obtain⟨β,hE,R,F⟩:=hI.ex
  -- the set, and what it is with k
  have hS':∀j,(listed.setIfInBounds k true).getD j false=(decide (j=k) || listed.getD j false):=fun j=>by
   rw[Array.getD_eq_getD_getElem?,Array.getD_eq_getD_getElem?]
   by_cases h:k=j
   ·subst h;simp[hkl]
   ·rw[Array.getElem?_setIfInBounds_ne h]
    have:¬j=k:=fun e=>h e.symm
    simp[this]
  have hpre':∀e∈edges o,listed.getD e false=true:=fun e he=>by
   obtain⟨x,hx,hb,rfl⟩:=mem_edges.1 he
   exact hpre x hx hb
  -- ancestors
  obtain⟨an1,an2,an3,_⟩:=ancs_spec (S:=fun j=>listed.getD j false) (l:=ops.toList) (acc:=[]) (fun j m hj=>by simp at hj) (fun j o' hj hs e he=>hI.closed j o' (by rw[←Array.getElem?_toList];exact hj) (by simpa using hs) e he)
  have hrs:∀j x,rs[j]? = some x→j < rs.length:=fun j x hj=>by
   rcases Nat.lt_or_ge j rs.length with h|h
   ·exact h
   ·rw[List.getElem?_eq_none h]at hj;cases hj
  -- those ahead of k in the text: carried out, or apart
  have before:∀j x,rs[j]? = some x→j < k→listed.getD j false=true∨Apart x r:=fun j x hj hjk=>by
   obtain⟨m,hm,hp⟩:=apartR_spec hap k r hrk
   rcases hp j x (by simpa using hj) (by simpa using hjk)with h|h
   ·exact .inl (an2 k o (by rw[Array.getElem?_toList];exact ho) hpre' m (by simpa using hm) j h)
   ·exact .inr h
  -- those behind k: not carried out, or apart
  have behind:∀j x,rs[j]? = some x→k < j→listed.getD j false=false∨Apart r x:=fun j x hj hjk=>by
   obtain⟨m,hm,hp⟩:=apartR_spec hap j x hj
   rcases hp k r (by simpa using hrk) (by simpa using hjk)with h|h
   ·left
    cases hb:listed.getD j false with
    | false=>rfl
    | true=>
     have:=an1 j m hm hb k h
     rw[hkn]at this
     cases this
   ·exact .inr h
  have claimT:∀t,t∈r.us→lkS (look φ) (fun j=>rs[j]?) (fun j=>listed.getD j false) rs.length t=look φk t:=fun t ht=>by
   rw[hφk t,←lkS_cut (n:=rs.length) (by omega)]
   refine lkS_congr fun j x hj hx hd=>?_
   rcases Nat.lt_trichotomy j k with h|h|h
   ·rcases before j x hx h with h'|h'
    ·rw[h'];simp[h]
    ·exact absurd ht (h'.d2 t hd)
   ·subst h;rw[hkn];simp
   ·rcases behind j x hx h with h'|h'
    ·rw[h'];simp;omega
    ·exact absurd ht (h'.d3 t hd)
  have claimH:∀i,i∈r.rd∨i∈r.wr.map (·.1)→heS (hp L) (fun j=>rs[j]?) (fun j=>listed.getD j false) rs.length i=hp Lk i:=fun i hi=>by
   rw[hLk,←heS_cut (n:=rs.length) (by omega)]
   refine heS_congr fun j x hj hx hd=>?_
   rcases Nat.lt_trichotomy j k with h|h|h
   ·rcases before j x hx h with h'|h'
    ·rw[h'];simp[h]
    ·rcases hi with hi|hi
     ·exact absurd hi (h'.w2 i hd)
     ·exact absurd hi (h'.w1 i hd)
   ·subst h;rw[hkn];simp
   ·rcases behind j x hx h with h'|h'
    ·rw[h'];simp;omega
    ·rcases hi with hi|hi
     ·exact absurd hi (h'.w3 i hd)
     ·exact absurd hd (h'.w1 i hi)
  have claimH2:heS (hp L) (fun j=>rs[j]?) (fun j=>(listed.setIfInBounds k true).getD j false) rs.length=wrs (heS (hp L) (fun j=>rs[j]?) (fun j=>listed.getD j false) rs.length) r.wr:=funext fun i=>by
   by_cases hi:i∈r.wr.map (·.1)
   ·refine heS_at (k:=k) (r:=r) hrk hi (by rw[hS' k];simp) (by omega) fun j x h1 h2 hx hd=>?_
    rw[hS' j]
    rcases behind j x hx h1 with h'|h'
    ·rw[h'];simp;omega
    ·exact absurd hd (h'.w1 i hi)
   ·rw[wrs_out _ hi]
    refine heS_congr fun j x hj hx hd=>?_
    rw[hS' j]
    by_cases h:j=k
    ·subst h
     rw[hrk]at hx
     injection hx with hx
     subst hx
     exact absurd hd hi
    ·simp[h]
  have claimT2:∀t,lkS (look φ) (fun j=>rs[j]?) (fun j=>(listed.setIfInBounds k true).getD j false) rs.length t=if r.dst=some t then some r.v else lkS (look φ) (fun j=>rs[j]?) (fun j=>listed.getD j false) rs.length t:=fun t=>by
   by_cases hd:r.dst=some t
   ·rw[if_pos hd]
    refine lkS_at (k:=k) (r:=r) hrk hd (by rw[hS' k];simp) (by omega) fun j x h1 h2 hx hdx=>?_
    rw[hS' j]
    rcases behind j x hx h1 with h'|h'
    ·rw[h'];simp;omega
    ·exact absurd hdx (h'.d1 t hd)
   ·rw[if_neg hd]
    refine lkS_congr fun j x hj hx hdx=>?_
    rw[hS' j]
    by_cases h:j=k
    ·subst h
     rw[hrk]at hx
     injection hx with hx
     subst hx
     exact absurd hdx hd
    ·simp[h]
  obtain⟨hd1,hd2⟩:=opG_dst hg
  refine stepG hC hT ho hg (hck hc) R (fun i hi=>claimH i (.inl hi)) (fun p hp=>claimH p.1 (.inr (List.mem_map_of_mem hp))) (fun t ht v hv=>F t v (by rw[claimT t ht];exact hv)) fun β' w' u k1 k2 k3 k4 k5=>?_
  refine⟨by simp[hI.sz],fun j o' hj hjS e he=>?_,⟨β',fun i hi=>?_,?_,fun t v hv=>?_⟩,fun i hi=>?_,by rw[put_size];exact hI.size,by rw[put_defers];exact hI.defers⟩
  ·rw[hS']at hjS ⊢
   by_cases h:j=k
   ·subst h
    rw[ho]at hj
    injection hj with hj
    subst hj
    simp[hpre' e he]
   ·simp[h]at hjS
    have:=hI.closed j o' hj (by simpa using hjS) e he
    simp[this]
  ·rw[←k1 i (hI.born i hi)];exact hE i hi
  ·rw[claimH2];exact k3
  ·rw[claimT2]at hv
   rw[claimH2,put_get hI.size hd2,←hd1]
   by_cases h:r.dst=some t
   ·exact d14_
   ·exact d15_
  ·rw[claimH2];exact k2 i (hI.born i hi)
theorem wp_region_drawn (hm:P.follows .mixedOrders=true)(hC:∀f S,C f=some S→zm_ P f S)(hT:TabOk P T){id:Nat}{ops:Array Oper}{Q:Exit→Act→World→Prop}{c:Prop}{rs:List Rc}(hr:runR T C N ops.toList φ L ops.toList=some (c,rs,φ',L'))(hok:regionOk ops.toList rs=true)(hc:c)
  (hS:St w0 M E n0 N D φ L a w) (hQ:∀a w,St w0 M E n0 N D φ' L' a w→Q .normal a w):(Code.region id ops true).wp P Q a w:=wp_region_any hm (wpAny_drawn hm hC hT hr hok hc hS hQ)
end
end Go.Proofs.Ytmljmabbopkpiaa.Vm
end

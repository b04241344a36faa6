import Derived.Test.YtmljmabbopkpiaaC1
import Derived.CallsIn
import Derived.OrdersIn
import Derived.Below
import Derived.Laws.CopyRow
import Derived.ChangeKeysEq
import Derived.Deep.Draws
import Derived.Laws.BitsAllLaws
import Derived.Laws.Small
import Derived.Laws.StructEq
import Derived.Laws.Pointers
set_option linter.unusedSimpArgs false
set_option linter.unusedVariables false
section
namespace Go.Proofs.Ytmljmabbopkpiaa.Vm
inductive Stp where
 | f (j o:Nat)
 | i (m k:Nat)
def Stp.off:Stp→Nat
 | .f _ o=>o
 | .i m k=>m*k
def offp:List Stp→Nat
 | []=>0
 | s::l=>s.off+offp l
inductive SV where
 | int (k:IntKind) (n:Int)
 | nat (k:IntKind) (n:Nat)
 | bool (b:Bool)
 | str (s:ByteArray)
 | nilp
 | ptr (id:Nat) (pa:List Stp)
 /-- n elements of k cells each, from element s on, of what stands at pa in block id; z: where it begins if it is empty, and its capacity -/
 | sl (z id:Nat) (pa:List Stp) (k s n:Nat) (c:Option Nat)
 | agg (l:List SV)
 | arr (n k:Nat) (f:Nat→SV)
 | tup (l:List SV)
 | fn (f:FuncId) (caps:List SV)
 | yl (id:Nat)
 | nilf
 /-- known if b is true -/
 | gd (b:Bool) (v:SV)
abbrev Env:=Nat→Option Addr×Nat
def sane:Value→Value
 | .agg _=>.bool false
 | .tuple _=>.bool false
 | v=>v
theorem sane_sane (v:Value):sane (sane v)=sane v:=by cases v<;>rfl
def fit (k:Nat)(l:List Value):List Value:=l.take k++List.replicate (k - l.length) (.bool false)
theorem fit_length (k:Nat)(l:List Value):(fit k l).length=k:=by
 unfold fit;simp;omega
theorem fit_eq {k:Nat}{l:List Value}(h:l.length=k):fit k l=l:=by
 unfold fit;subst h;simp
mutual
def SV.den (β : Env):SV→Value
 | .int k n=>.int k n
 | .nat k n=>.int k (n:Int)
 | .bool b=>.bool b
 | .str s=>.string s
 | .nilp=>.pointer none
 | .ptr id pa=>.pointer (some (((β id).1.getD ⟨0,0,none⟩).add (offp pa)))
 | .sl z id pa k s n c=>.slice (if n=0 then(β z).1 else some (((β id).1.getD ⟨0,0,none⟩).add (offp pa+s*k))) n (max n (c.getD (β z).2))
 | .agg l=>.agg ((denL β l).flatMap fun v=>v.cells.toList.map sane).toArray
 | .arr n k f=>.agg ((List.range n).flatMap fun i=>fit k (((f i).den β).cells.toList.map sane)).toArray
 | .tup l=>.tuple (denL β l).toArray
 | .fn f caps=>.func (.func f) #[] (denL β caps).toArray
 | .yl id=>match (β id).1 with|some a=>.func (.yield a.block) #[] #[]|none=>.nilFunc
 | .nilf=>.nilFunc
 | .gd b v=>bif b then v.den β else .tuple #[]
def denL (β : Env):List SV→List Value
 | []=>[]
 | x::l=>x.den β :: denL β l
end
mutual
def SV.size:SV→Nat
 | .agg l=>sizeL l
 | .arr n k _=>n*k
 | .gd b v=>bif b then v.size else 1
 | _=>1
def sizeL:List SV→Nat
 | []=>0
 | x::l=>x.size+sizeL l
end
def SV.isAgg:SV→Bool
 | .agg _=>true
 | .arr ..=>true
 | _=>false
def SV.plain:SV→Bool
 | .tup _=>false
 | .gd ..=>false
 | _=>true
def SV.cl (β : Env)(v:SV):List Value:=(v.den β).cells.toList.map sane
def clL (β : Env)(l:List SV):List Value:=(denL β l).flatMap fun v=>v.cells.toList.map sane
section
variable {β : Env}
theorem clL_nil:clL β []=[]:=rfl
theorem yk_ (x:SV)(l:List SV):clL β (x::l)=x.cl β ++ clL β l:=by simp[clL,denL,SV.cl]
theorem clL_append (l m:List SV):clL β (l++m)=clL β l++clL β m:=by
 induction l with
 | nil=>rfl
 | cons x l ih=>rw[List.cons_append,yk_,yk_,ih,List.append_assoc]
theorem map_sane {l:List Value}(h:∀x∈l,sane x=x):l.map sane=l:=by
 conv=>rhs;rw[←List.map_id l]
 exact List.map_congr_left h
theorem sane_fit (k:Nat)(l:List Value)(h:∀x∈l,sane x=x):∀x∈fit k l,sane x=x:=by
 intro x hx
 unfold fit at hx
 rcases List.mem_append.1 hx with hx|hx
 ·exact h x (List.mem_of_mem_take hx)
 ·obtain⟨_,rfl⟩:=List.mem_replicate.1 hx;rfl
theorem cl_sane (v:SV):∀x∈v.cl β,sane x=x:=by
 intro x hx
 obtain⟨y,_,rfl⟩:=List.mem_map.1 hx
 exact sane_sane y
theorem clL_sane (l:List SV):∀x∈clL β l,sane x=x:=by
 intro x hx
 obtain⟨v,_,hx⟩:=List.mem_flatMap.1 hx
 obtain⟨y,_,rfl⟩:=List.mem_map.1 hx
 exact sane_sane y
theorem cells_agg (l:List SV):((SV.agg l).den β).cells.toList=clL β l:=by simp[SV.den,Value.cells,clL]
theorem cells_arr (n k:Nat)(f:Nat→SV):((SV.arr n k f).den β).cells.toList=(List.range n).flatMap fun i=>fit k ((f i).cl β):=by simp[SV.den,Value.cells,SV.cl]
theorem cl_agg (l:List SV):(SV.agg l).cl β = clL β l:=by
 unfold SV.cl
 rw[cells_agg,map_sane (clL_sane l)]
theorem cl_arr (n k:Nat)(f:Nat→SV):(SV.arr n k f).cl β =(List.range n).flatMap fun i=>fit k ((f i).cl β):=by
 show (((SV.arr n k f).den β).cells.toList).map sane=_
 rw[cells_arr,map_sane]
 intro x hx
 obtain⟨i,_,hx⟩:=List.mem_flatMap.1 hx
 exact sane_fit _ _ (cl_sane _) x hx
theorem flatMap_fit_length (n k:Nat)(g:Nat→List Value):((List.range n).flatMap fun i=>fit k (g i)).length=n*k:=by
 induction n with
 | zero=>simp
 | succ n ih=>rw[List.range_succ,List.flatMap_append,List.length_append,ih];simp[fit_length,Nat.succ_mul]
mutual
theorem zy_:∀v:SV,(v.cl β).length=v.size
 | .agg l=>by rw[cl_agg,clL_length l];rfl
 | .arr n k f=>by rw[cl_arr,flatMap_fit_length];rfl
 | .gd b v=>by
   have:=zy_ v
   simp only[SV.cl,SV.den,SV.size]at this ⊢
   cases b with
   | true=>exact this
   | false=>rfl
 | .int k n=>rfl
 | .nat k n=>rfl
 | .bool b=>rfl
 | .str s=>rfl
 | .nilp=>rfl
 | .ptr id pa=>rfl
 | .sl z id pa k s n c=>rfl
 | .tup l=>rfl
 | .fn f caps=>rfl
 | .yl id=>by
   simp only[SV.cl,SV.den,SV.size]
   split<;>rfl
 | .nilf=>rfl
theorem clL_length:∀l:List SV,(clL β l).length=sizeL l
 | []=>rfl
 | x::l=>by rw[yk_,List.length_append,zy_ x,clL_length l];rfl
end
theorem den_agg {v:SV}(h:v.isAgg=true):v.den β = .agg (v.cl β).toArray:=by
 cases v<;>first |(cases h;done)|skip
 ·rw[cl_agg,←cells_agg];simp[SV.den,Value.cells]
 ·rw[cl_arr,←cells_arr];simp[SV.den,Value.cells]
theorem den_cell {v:SV}(h:v.isAgg=false)(hp:v.plain=true):v.cl β = [v.den β]:=by
 cases v<;>first |(cases h;done) |(cases hp;done)|rfl |(simp only[SV.cl,SV.den];split<;>rfl)
end
def nav:SV→List Stp→Option (Prop×SV)
 | v,[]=>some (True,v)
 | .agg l,.f j o::pa=>match l[j]? with
  | some x=>bif Nat.beq (sizeL (l.take j)) o then nav x pa else none
  | none=>none
 | .agg l,.i m k::pa=>match l[m]? with
  | some x=>bif Nat.beq (sizeL (l.take m)) (m*k)then nav x pa else none
  | none=>none
 | .arr n k f,.i m k'::pa=>bif Nat.beq k k' && Nat.beq (f m).size k then
   match nav (f m) pa with
   | some (c,u)=>some (m < n∧c,u)
   | none=>none
  else none
 | _,_=>none
theorem take_add_one_of {α : Type}{l:List α}{j:Nat}{x:α}(h:l[j]? = some x):l=l.take j++x::l.drop (j+1):=by
 have hj:j < l.length:=by
  rcases Nat.lt_or_ge j l.length with h'|h'
  ·exact h'
  ·rw[List.getElem?_eq_none h']at h;cases h
 have hx:l[j]=x:=by rw[List.getElem?_eq_getElem hj]at h;injection h
 rw[←hx,←List.drop_eq_getElem_cons hj,List.take_append_drop]
theorem range_split {n m:Nat}(h:m < n):List.range n=List.range m++m::(List.range (n - m - 1)).map (· + (m+1)):=by
 apply List.ext_getElem
 ·simp;omega
 ·intro i h1 h2
  simp only[List.getElem_range,List.getElem_append,List.getElem_cons,List.length_range,List.getElem_map]
  split
  ·rfl
  ·split<;>omega
theorem nav_spec (β : Env):∀(pa:List Stp) (v:SV) (c:Prop) (u:SV),nav v pa=some (c,u)→c →
  ∃pre post,v.cl β = pre++u.cl β ++ post∧pre.length=offp pa
 | [],v,c,u,h,hc=>by
  simp only[nav,Option.some.injEq,Prod.mk.injEq]at h
  obtain⟨_,rfl⟩:=h
  exact⟨[],[],by simp,rfl⟩
 | .f j o::pa,v,c,u,h,hc=>by
  cases v<;>simp only[nav]at h<;>try (cases h;done)
  rename_i l
  split at h
  ·rename_i x hx
   cases hb:Nat.beq (sizeL (l.take j)) o with
   | false=>rw[hb]at h;cases h
   | true=>
    rw[hb]at h
    obtain⟨pre,post,he,hl⟩:=nav_spec β pa x c u h hc
    have ho:=Nat.eq_of_beq_eq_true hb
    refine⟨clL β (l.take j)++pre,post++clL β (l.drop (j+1)),?_,?_⟩
    ·rw[cl_agg]
     conv=>lhs;rw[take_add_one_of hx]
     rw[clL_append,yk_,he]
     simp[List.append_assoc]
    ·exact k1_
  ·cases h
 | .i m k'::pa,v,c,u,h,hc=>by
  cases v<;>simp only[nav]at h<;>try (cases h;done)
  ·rename_i l
   split at h
   ·rename_i x hx
    cases hb:Nat.beq (sizeL (l.take m)) (m*k')with
    | false=>rw[hb]at h;cases h
    | true=>
     rw[hb]at h
     obtain⟨pre,post,he,hl⟩:=nav_spec β pa x c u h hc
     have ho:=Nat.eq_of_beq_eq_true hb
     refine⟨clL β (l.take m)++pre,post++clL β (l.drop (m+1)),?_,?_⟩
     ·rw[cl_agg]
      conv=>lhs;rw[take_add_one_of hx]
      rw[clL_append,yk_,he]
      simp[List.append_assoc]
     ·exact k1_
   ·cases h
  ·rename_i n k f
   cases hb:Nat.beq k k' && Nat.beq (f m).size k with
   | false=>rw[hb]at h;cases h
   | true=>
    rw[hb]at h
    simp only[cond_true]at h
    rw[Bool.and_eq_true]at hb
    have hk:=Nat.eq_of_beq_eq_true hb.1
    have hs:=Nat.eq_of_beq_eq_true hb.2
    subst hk
    split at h
    ·rename_i c' u' hn
     simp only[Option.some.injEq,Prod.mk.injEq]at h
     obtain⟨rfl,rfl⟩:=h
     obtain⟨pre,post,he,hl⟩:=nav_spec β pa (f m) c' u' hn hc.2
     refine⟨((List.range m).flatMap fun i=>fit k ((f i).cl β))++pre,post++((List.range (n - m - 1)).map (· + (m+1))).flatMap (fun i=>fit k ((f i).cl β)),?_,?_⟩
     ·rw[cl_arr,range_split hc.1,List.flatMap_append,List.flatMap_cons,fit_eq (by rw[zy_,hs]),he]
      simp[List.append_assoc]
     ·rw[List.length_append,flatMap_fit_length,hl];rfl
    ·cases h
mutual
def SV.ite (c:Bool):SV→SV→SV
 | .int k m,b=>match b with
  | .int k' n=>if k=k' then .int k (bif c then m else n)else bif c then .int k m else b
  | b=>bif c then .int k m else b
 | .nat k m,b=>match b with
  | .nat k' n=>if k=k' then .nat k (bif c then m else n)else bif c then .nat k m else b
  | b=>bif c then .nat k m else b
 | .bool m,b=>match b with
  | .bool n=>.bool (bif c then m else n)
  | b=>bif c then .bool m else b
 | .agg l,b=>match b with
  | .agg l'=>if l.length=l'.length then .agg (iteL c l l')else bif c then .agg l else b
  | b=>bif c then .agg l else b
 | .arr n k f,b=>match b with
  | .arr n' k' f'=>if n=n'∧k=k' then .arr n k fun i=>(f i).ite c (f' i)else bif c then .arr n k f else b
  | b=>bif c then .arr n k f else b
 | a,b=>bif c then a else b
def iteL (c:Bool):List SV→List SV→List SV
 | [],_=>[]
 | x::l,m=>match m with
  | []=>x::l
  | y::m=>x.ite c y::iteL c l m
end
mutual
theorem x1_:∀(c:Bool) (a b:SV),SV.ite c a b=bif c then a else b
 | c,.int k m,b=>by
  cases b<;>simp only[SV.ite]
  split
  ·rename_i h;subst h;cases c<;>rfl
  ·rfl
 | c,.nat k m,b=>by
  cases b<;>simp only[SV.ite]
  split
  ·rename_i h;subst h;cases c<;>rfl
  ·rfl
 | c,.bool m,b=>by
  cases b<;>simp only[SV.ite]
  cases c<;>rfl
 | c,.agg l,b=>by
  cases b<;>simp only[SV.ite]
  rename_i l'
  split
  ·rename_i h;rw[iteL_eq c l l' h];cases c<;>rfl
  ·rfl
 | c,.arr n k f,b=>by
  cases b<;>simp only[SV.ite]
  rename_i n' k' f'
  split
  ·rename_i h
   obtain⟨rfl,rfl⟩:=h
   have:(fun i=>(f i).ite c (f' i))=bif c then f else f':=by
    funext i
    rw[x1_ c (f i) (f' i)]
    cases c<;>rfl
   rw[this];cases c<;>rfl
  ·rfl
 | c,.str _,b=>rfl
 | c,.nilp,b=>rfl
 | c,.ptr _ _,b=>rfl
 | c,.sl ..,b=>rfl
 | c,.tup _,b=>rfl
 | c,.fn _ _,b=>rfl
 | c,.yl _,b=>rfl
 | c,.nilf,b=>rfl
 | c,.gd _ _,b=>rfl
theorem iteL_eq:∀(c:Bool) (l m:List SV),l.length=m.length→iteL c l m=bif c then l else m
 | c,[],m,h=>by
  cases m with
  | nil=>cases c<;>rfl
  | cons y m=>cases h
 | c,x::l,m,h=>by
  cases m with
  | nil=>cases h
  | cons y m=>
   simp only[iteL]
   rw[x1_ c x y,iteL_eq c l m (by simpa using h)]
   cases c<;>rfl
end
def setp:SV→List Stp→SV→Option SV
 | _,[],x=>some x
 | .agg l,.f j _::pa,x=>match l[j]? with
  | some y=>match setp y pa x with
   | some y'=>some (.agg (l.set j y'))
   | none=>none
  | none=>none
 | .agg l,.i j _::pa,x=>match l[j]? with
  | some y=>match setp y pa x with
   | some y'=>some (.agg (l.set j y'))
   | none=>none
  | none=>none
 | .arr n k f,.i m _::pa,x=>match setp (f m) pa x with
  | some y'=>some (.arr n k fun j=>SV.ite (decide (j=m)) y' (f j))
  | none=>none
 | _,_,_=>none
theorem sizeL_append (l m:List SV):sizeL (l++m)=sizeL l+sizeL m:=by
 induction l with
 | nil=>simp[sizeL]
 | cons x l ih=>simp only[List.cons_append,sizeL,ih];omega
theorem setp_spec (β : Env):∀(pa:List Stp) (v:SV) (c:Prop) (u x v':SV),nav v pa=some (c,u)→c→x.size=u.size→setp v pa x=some v' →
  v'.size=v.size∧∃pre post,v.cl β = pre++u.cl β ++ post∧v'.cl β = pre++x.cl β ++ post∧pre.length=offp pa
 | [],v,c,u,x,v',h,hc,hx,hs=>by
  simp only[nav,Option.some.injEq,Prod.mk.injEq]at h
  obtain⟨_,rfl⟩:=h
  simp only[setp,Option.some.injEq]at hs
  subst hs
  exact⟨hx,[],[],by simp,by simp,rfl⟩
 | .f j o::pa,v,c,u,x,v',h,hc,hx,hs=>by
  cases v<;>simp only[nav]at h<;>try (cases h;done)
  rename_i l
  split at h
  ·rename_i y hy
   cases hb:Nat.beq (sizeL (l.take j)) o with
   | false=>rw[hb]at h;cases h
   | true=>
    rw[hb]at h
    simp only[setp,hy]at hs
    split at hs
    ·rename_i y' hy'
     simp only[Option.some.injEq]at hs
     subst hs
     obtain⟨hz,pre,post,he,he',hl⟩:=setp_spec β pa y c u x y' h hc hx hy'
     have ho:=Nat.eq_of_beq_eq_true hb
     have e1:=take_add_one_of hy
     have hj:j < l.length:=by
      rcases Nat.lt_or_ge j l.length with h'|h'
      ·exact h'
      ·rw[List.getElem?_eq_none h']at hy;cases hy
     have e2:l.set j y'=l.take j++y'::l.drop (j+1):=List.set_eq_take_append_cons_drop .. |>.trans (by rw[if_pos hj])
     refine⟨?_,clL β (l.take j)++pre,post++clL β (l.drop (j+1)),?_,?_,?_⟩
     ·show sizeL (l.set j y')=sizeL l
      rw[e2]
      conv=>rhs;rw[e1]
      rw[sizeL_append,sizeL_append]
      simp only[sizeL,hz]
     ·rw[cl_agg]
      conv=>lhs;rw[e1]
      rw[clL_append,yk_,he]
      simp[List.append_assoc]
     ·rw[cl_agg,e2,clL_append,yk_,he']
      simp[List.append_assoc]
     ·exact k1_
    ·cases hs
  ·cases h
 | .i m k'::pa,v,c,u,x,v',h,hc,hx,hs=>by
  cases v<;>simp only[nav]at h<;>try (cases h;done)
  ·rename_i l
   split at h
   ·rename_i y hy
    cases hb:Nat.beq (sizeL (l.take m)) (m*k')with
    | false=>rw[hb]at h;cases h
    | true=>
     rw[hb]at h
     simp only[setp,hy]at hs
     split at hs
     ·rename_i y' hy'
      simp only[Option.some.injEq]at hs
      subst hs
      obtain⟨hz,pre,post,he,he',hl⟩:=setp_spec β pa y c u x y' h hc hx hy'
      have ho:=Nat.eq_of_beq_eq_true hb
      have e1:=take_add_one_of hy
      have hj:m < l.length:=by
       rcases Nat.lt_or_ge m l.length with h'|h'
       ·exact h'
       ·rw[List.getElem?_eq_none h']at hy;cases hy
      have e2:l.set m y'=l.take m++y'::l.drop (m+1):=List.set_eq_take_append_cons_drop .. |>.trans (by rw[if_pos hj])
      refine⟨?_,clL β (l.take m)++pre,post++clL β (l.drop (m+1)),?_,?_,?_⟩
      ·show sizeL (l.set m y')=sizeL l
       rw[e2]
       conv=>rhs;rw[e1]
       rw[sizeL_append,sizeL_append]
       simp only[sizeL,hz]
      ·rw[cl_agg]
       conv=>lhs;rw[e1]
       rw[clL_append,yk_,he]
       simp[List.append_assoc]
      ·rw[cl_agg,e2,clL_append,yk_,he']
       simp[List.append_assoc]
      ·exact k1_
     ·cases hs
   ·cases h
  ·rename_i n k f
   cases hb:Nat.beq k k' && Nat.beq (f m).size k with
   | false=>rw[hb]at h;cases h
   | true=>
    rw[hb]at h
    simp only[cond_true]at h
    rw[Bool.and_eq_true]at hb
    have hk:=Nat.eq_of_beq_eq_true hb.1
    have hsz:=Nat.eq_of_beq_eq_true hb.2
    subst hk
    split at h
    ·rename_i c' u' hn
     simp only[Option.some.injEq,Prod.mk.injEq]at h
     obtain⟨rfl,rfl⟩:=h
     simp only[setp]at hs
     split at hs
     ·rename_i y' hy'
      simp only[Option.some.injEq]at hs
      subst hs
      obtain⟨hz,pre,post,he,he',hl⟩:=setp_spec β pa (f m) c' u' x y' hn hc.2 hx hy'
      have hf:(fun j=>SV.ite (decide (j=m)) y' (f j))=fun j=>if j=m then y' else f j:=by
       funext j
       rw[x1_]
       by_cases hjm:j=m<;>simp[hjm]
      rw[hf]
      have far:∀l:List Nat,(∀i∈l,i≠m)→l.flatMap (fun i=>fit k (((fun j=>if j=m then y' else f j) i).cl β))=l.flatMap (fun i=>fit k ((f i).cl β)):=by
       intro l hl
       induction l with
       | nil=>rfl
       | cons i l ih=>
        rw[List.flatMap_cons,List.flatMap_cons,ih fun i hi=>hl i (.tail _ hi)]
        have:=hl i (.head _)
        simp[this]
      refine⟨rfl,((List.range m).flatMap fun i=>fit k ((f i).cl β))++pre,post++((List.range (n - m - 1)).map (· + (m+1))).flatMap (fun i=>fit k ((f i).cl β)),?_,?_,?_⟩
      ·rw[cl_arr,range_split hc.1,List.flatMap_append,List.flatMap_cons,fit_eq (by rw[zy_,hsz]),he]
       simp[List.append_assoc]
      ·rw[cl_arr,range_split hc.1,List.flatMap_append,List.flatMap_cons]
       rw[far _ (by intro i hi;simp at hi;omega),far _ (by intro i hi;simp at hi;omega)]
       have:fit k (((fun j=>if j=m then y' else f j) m).cl β)=y'.cl β:=by
        simp only[if_true]
        exact fit_eq (by rw[zy_,hz,hsz])
       rw[this,he']
       simp[List.append_assoc]
      ·rw[List.length_append,flatMap_fit_length,hl];rfl
     ·cases hs
    ·cases h
end Go.Proofs.Ytmljmabbopkpiaa.Vm
namespace Go.Proofs.Ytmljmabbopkpiaa.Vm
open Go.RowKit
inductive HB where
 | own (t:TypeId) (v:SV) (ex:Bool)
 | ro (v:SV)
 | raw (o:Obj)
 /-- it is there, but nothing is known of it -/
 | gone
 /-- not there yet -/
 | dead
def HB.born:HB→Bool
 | .dead=>false
 | _=>true
def HB.mine:HB→Bool
 | .own ..=>true
 | .raw _=>true
 | _=>false
def HB.val:HB→Option SV
 | .own _ v _=>some v
 | .ro v=>some v
 | _=>none
abbrev HM:=Nat→HB
def upd (h:HM)(i:Nat)(b:HB):HM:=fun j=>if j=i then b else h j
theorem z1_ (h:HM)(i:Nat)(b:HB):upd h i b i=b:=by simp[upd]
theorem yp_ {h:HM}{i j:Nat}{b:HB}(hn:j≠i):upd h i b j=h j:=by simp[upd,hn]
mutual
def zb_ (h:HM):SV→Prop
 | .ptr i _=>(h i).born=true
 | .sl z i _ _ _ _ _=>(h z).born=true∧(h i).born=true
 | .agg l=>zh_ h l
 | .arr _ _ f=>∀i,zb_ h (f i)
 | .tup l=>zh_ h l
 | .fn _ l=>zh_ h l
 | .yl i=>(h i).born=true
 | .gd b v=>b=true→zb_ h v
 | _=>True
def zh_ (h:HM):List SV→Prop
 | []=>True
 | x::l=>zb_ h x∧zh_ h l
end
theorem yx_ {h:HM}{l:List SV}:zh_ h l↔∀v∈l,zb_ h v:=by
 induction l with
 | nil=>simp[zh_]
 | cons x l ih=>simp[zh_,ih]
mutual
theorem zb_.more {h h':HM}(hm:∀i,(h i).born=true→(h' i).born=true):∀{v:SV},zb_ h v→zb_ h' v
 | .ptr i _,hs=>hm i hs
 | .sl z i _ _ _ _ _,hs=>⟨hm z hs.1,hm i hs.2⟩
 | .agg l,hs=>by simp only[zb_]at hs ⊢;exact zh_.more hm hs
 | .arr _ _ f,hs=>by simp only[zb_]at hs ⊢;exact fun i=>zb_.more hm (hs i)
 | .tup l,hs=>by simp only[zb_]at hs ⊢;exact zh_.more hm hs
 | .fn _ l,hs=>by simp only[zb_]at hs ⊢;exact zh_.more hm hs
 | .yl i,hs=>hm i hs
 | .gd _ v,hs=>by simp only[zb_]at hs ⊢;exact fun hb=>zb_.more hm (hs hb)
 | .int ..,_=>trivial
 | .nat ..,_=>trivial
 | .bool ..,_=>trivial
 | .str ..,_=>trivial
 | .nilp,_=>trivial
 | .nilf,_=>trivial
theorem zh_.more {h h':HM}(hm:∀i,(h i).born=true→(h' i).born=true):∀{l:List SV},zh_ h l→zh_ h' l
 | [],_=>trivial
 | x::l,hs=>⟨zb_.more hm hs.1,zh_.more hm hs.2⟩
end
mutual
theorem zb_.den {h:HM}{β β':Env}(hb:∀i,(h i).born=true→β i = β' i):∀{v:SV},zb_ h v→v.den β = v.den β'
 | .ptr i _,hs=>by simp only[SV.den];rw[hb i hs]
 | .sl z i _ _ _ _ _,hs=>by simp only[SV.den];rw[hb z hs.1,hb i hs.2]
 | .agg l,hs=>by simp only[zb_]at hs;simp only[SV.den];rw[zh_.den hb hs]
 | .arr n k f,hs=>by
   simp only[zb_]at hs
   simp only[SV.den]
   have:(fun i=>fit k (((f i).den β).cells.toList.map sane))=fun i=>fit k (((f i).den β').cells.toList.map sane):=funext fun i=>by rw[zb_.den hb (hs i)]
   rw[this]
 | .tup l,hs=>by simp only[zb_]at hs;simp only[SV.den];rw[zh_.den hb hs]
 | .fn _ l,hs=>by simp only[zb_]at hs;simp only[SV.den];rw[zh_.den hb hs]
 | .yl i,hs=>by simp only[SV.den];rw[hb i hs]
 | .gd b v,hs=>by
   simp only[zb_]at hs
   simp only[SV.den]
   cases b with
   | true=>exact zb_.den hb (hs rfl)
   | false=>rfl
 | .int ..,_=>rfl
 | .nat ..,_=>rfl
 | .bool ..,_=>rfl
 | .str ..,_=>rfl
 | .nilp,_=>rfl
 | .nilf,_=>rfl
theorem zh_.den {h:HM}{β β':Env}(hb:∀i,(h i).born=true→β i = β' i):∀{l:List SV},zh_ h l→denL β l=denL β' l
 | [],_=>rfl
 | x::l,hs=>by simp only[denL];rw[zb_.den hb hs.1,zh_.den hb hs.2]
end
theorem zb_.cl {h:HM}{v:SV}(hs:zb_ h v){β β':Env}(hb:∀i,(h i).born=true→β i = β' i):v.cl β = v.cl β':=by unfold SV.cl;rw[hs.den hb]
theorem zb_.upd {h:HM}{v:SV}{i:Nat}{b:HB}(hs:zb_ h v)(hb:b.born=true):zb_ (upd h i b) v:=
 hs.more fun j hj=>by unfold Vm.upd;split<;>simp_all
theorem zb_.of_nav {h:HM}:∀{pa:List Stp} {v u:SV} {c:Prop},zb_ h v→nav v pa=some (c,u)→zb_ h u
 | [],v,u,c,hs,hn=>by
  simp only[nav,Option.some.injEq,Prod.mk.injEq]at hn
  obtain⟨_,rfl⟩:=hn
  exact hs
 | .f j o::pa,v,u,c,hs,hn=>by
  cases v<;>simp only[nav]at hn<;>try (cases hn;done)
  rename_i l
  simp only[zb_]at hs
  split at hn
  ·rename_i x hx
   cases hb:Nat.beq (sizeL (l.take j)) o with
   | false=>rw[hb]at hn;cases hn
   | true=>rw[hb]at hn;exact zb_.of_nav (yx_.1 hs x (List.mem_of_getElem? hx)) hn
  ·cases hn
 | .i m k'::pa,v,u,c,hs,hn=>by
  cases v<;>simp only[nav]at hn<;>try (cases hn;done)
  ·rename_i l
   simp only[zb_]at hs
   split at hn
   ·rename_i x hx
    cases hb:Nat.beq (sizeL (l.take m)) (m*k')with
    | false=>rw[hb]at hn;cases hn
    | true=>rw[hb]at hn;exact zb_.of_nav (yx_.1 hs x (List.mem_of_getElem? hx)) hn
   ·cases hn
  ·rename_i n k f
   simp only[zb_]at hs
   cases hb:Nat.beq k k' && Nat.beq (f m).size k with
   | false=>rw[hb]at hn;cases hn
   | true=>
    rw[hb]at hn
    simp only[cond_true]at hn
    split at hn
    ·rename_i c' u' hn'
     simp only[Option.some.injEq,Prod.mk.injEq]at hn
     obtain⟨_,rfl⟩:=hn
     exact zb_.of_nav (hs m) hn'
    ·cases hn
theorem mem_set_of {α : Type}{l:List α}{j:Nat}{y x:α}(h:x∈l.set j y):x=y∨x∈l:=by
 rcases List.mem_or_eq_of_mem_set h with h|h
 ·exact .inr h
 ·exact .inl h
theorem zb_.of_setp {h:HM}:∀{pa:List Stp} {v x v':SV},zb_ h v→zb_ h x→setp v pa x=some v'→zb_ h v'
 | [],v,x,v',hv,hx,hs=>by
  simp only[setp,Option.some.injEq]at hs
  subst hs;exact hx
 | .f j o::pa,v,x,v',hv,hx,hs=>by
  cases v<;>simp only[setp]at hs<;>try (cases hs;done)
  rename_i l
  simp only[zb_]at hv
  split at hs
  ·exact d6_
  ·cases hs
 | .i m k'::pa,v,x,v',hv,hx,hs=>by
  cases v<;>simp only[setp]at hs<;>try (cases hs;done)
  ·rename_i l
   simp only[zb_]at hv
   split at hs
   ·exact d6_
   ·cases hs
  ·rename_i n k f
   simp only[zb_]at hv
   split at hs
   ·rename_i y' hy'
    injection hs with hs;subst hs
    simp only[zb_]
    intro i
    rw[x1_]
    cases decide (i=m)with
    | true=>exact zb_.of_setp (hv m) hx hy'
    | false=>exact hv i
   ·cases hs
def OwnB (β : Env)(w:World)(i:Nat)(t:TypeId)(v:SV)(ex:Bool):Prop:=
 (∃g pre cs,(β i).1=some ⟨g,pre.length,none⟩∧w.heap[g]? = some (.cells cs t (0,0))∧(∃tl,cs.toList=pre++(v.cl β ++ tl)∧(ex=true→tl=[]))∧∀n k f,v=.arr n k f→n≤(β i).2∧pre.length+(β i).2*k≤cs.size) ∨
 (β i=(none,0)∧ex=false∧∃k f,v=.arr 0 k f)
def Holds (β : Env)(w:World)(i:Nat):HB→Prop
 | .own t v ex=>OwnB β w i t v ex
 | .ro v=>(∀a,(β i).1=some a→∀j x,(v.cl β)[j]? = some x→w.cell? (a.add j)=some x)∧((β i).1=none→v.size=0)∧∀n k f,v=.arr n k f→n≤(β i).2
 | .raw o=>∃g,(β i).1=some ⟨g,0,none⟩∧w.heap[g]? = some o
 | .gone=>True
 | .dead=>True
def HB.stable (h:HM):HB→Prop
 | .own _ v _=>zb_ h v
 | .ro v=>zb_ h v
 | _=>True
theorem HB.stable_more {h h':HM}{b:HB}(hb:b.stable h)(hm:∀i,(h i).born=true→(h' i).born=true):b.stable h':=by
 cases b with
 | own t v ex=>exact zb_.more hm hb
 | ro v=>exact zb_.more hm hb
 | raw o=>trivial
 | gone=>trivial
 | dead=>trivial
structure Rep (w0:World) (M:Nat→Prop) (β : Env) (h:HM) (w:World):Prop where
 os:w.os=w0.os
 tape:w.tape=w0.tape
 output:w.output=w0.output
 size:w0.heap.size≤w.heap.size
 frame:∀g,g < w0.heap.size→¬M g→w.heap[g]? = w0.heap[g]?
 nil:β 0=(none,0)
 nil0:h 0=.gone
 st:∀i,(h i).stable h
 blk:∀i,Holds β w i (h i)
 own:∀(i:Nat) (a:Addr),(h i).mine=true→(β i).1=some a→w0.heap.size≤a.block∨M a.block
 ro:∀(i:Nat) (v:SV) (a:Addr),h i=.ro v→(β i).1=some a→0 < v.size→a.block < w0.heap.size∧¬M a.block
 dist:∀(i j:Nat) (ai aj:Addr),i≠j→(h i).mine=true→(h j).mine=true→(β i).1=some ai→(β j).1=some aj→ai.block≠aj.block
 lt:∀(i:Nat) (a:Addr),(h i).mine=true→(β i).1=some a→a.block < w.heap.size
theorem block_add (a:Addr)(n:Nat):(a.add n).block=a.block:=by unfold Addr.add;split<;>rfl
theorem add_add (a:Addr)(i j:Nat):(a.add i).add j=a.add (i+j):=by
 unfold Addr.add
 by_cases hi:i=0<;>by_cases hj:j=0<;>simp[hi,hj,Nat.add_assoc]
theorem offp_append (p q:List Stp):offp (p++q)=offp p+offp q:=by
 induction p with
 | nil=>simp[offp]
 | cons s p ih=>simp only[List.cons_append,offp,ih,Nat.add_assoc]
theorem addr_addo (g z o:Nat):(⟨g,z,none⟩:Addr).add o=⟨g,z+o,none⟩:=by unfold Addr.add;split<;>simp_all
theorem cell_at (w:World)(g z o:Nat)(cs:Array Value)(t:TypeId)(h:w.heap[g]? = some (.cells cs t (0,0))):w.cell? ((⟨g,z,none⟩:Addr).add o)=cs[z+o]? := by
 rw[addr_addo]
 simp[World.cell?,h]
theorem holds_cell {β : Env}{w:World}{i:Nat}{b:HB}{v:SV}(hv:b.val=some v)(h:Holds β w i b) :
  (∃a,(β i).1=some a∧∀j x,(v.cl β)[j]? = some x→w.cell? (a.add j)=some x)∨((β i).1=none∧v.size=0):=by
 cases b with
 | own t v' ex=>
  injection hv with hv;subst hv
  rcases h with ⟨g,pre,cs,ha,hg,⟨tl,hcs,_⟩,_⟩|⟨hb,_,k,f,rfl⟩
  ·refine .inl ⟨_,ha,fun j x hx=>?_⟩
   rw[cell_at w g _ j cs t hg,←Array.getElem?_toList,hcs,List.getElem?_append_right (by omega),Nat.add_sub_cancel_left]
   rw[List.getElem?_append_left]
   ·exact hx
   ·rcases Nat.lt_or_ge j (v'.cl β).length with h'|h'
    ·exact h'
    ·rw[List.getElem?_eq_none h']at hx;cases hx
  ·exact .inr ⟨by rw[hb],by simp[SV.size]⟩
 | ro v'=>
  injection hv with hv;subst hv
  cases hb:(β i).1 with
  | none=>exact .inr ⟨rfl,h.2.1 hb⟩
  | some a=>exact .inl ⟨a,rfl,h.1 a hb⟩
 | raw o=>cases hv
 | gone=>cases hv
 | dead=>cases hv
theorem cells_at {β : Env}{w:World}{i:Nat}{b:HB}(hR:Holds β w i b){v u:SV}{pa:List Stp}{c:Prop}(hv:b.val=some v)(hn:nav v pa=some (c,u))(hc:c)(hu:0 < u.size) :
  ∃a,(β i).1=some a∧∀j x,(u.cl β)[j]? = some x→w.cell? ((a.add (offp pa)).add j)=some x:=by
 obtain⟨pre,post,he,hl⟩:=nav_spec β pa v c u hn hc
 rcases holds_cell hv hR with ⟨a,ha,hcell⟩|⟨_,h0⟩
 ·refine⟨a,ha,fun j x hx=>?_⟩
  rw[add_add]
  refine hcell _ _ ?_
  rw[he,←hl,List.append_assoc,List.getElem?_append_right (by omega),Nat.add_sub_cancel_left,List.getElem?_append_left]
  ·exact hx
  ·rcases Nat.lt_or_ge j (u.cl β).length with h'|h'
   ·exact h'
   ·rw[List.getElem?_eq_none h']at hx;cases hx
 ·have:(v.cl β).length=0:=by rw[zy_,h0]
  rw[he]at this
  simp[zy_]at this
  omega
def setE (β : Env)(m:Nat)(e:Option Addr×Nat):Env:=fun i=>if i=m then e else β i
theorem z4_ (β : Env)(m:Nat)(e:Option Addr×Nat):setE β m e m=e:=by simp[setE]
theorem xg_ {β : Env}{m i:Nat}{e:Option Addr×Nat}(h:i≠m):setE β m e i = β i:=by simp[setE,h]
theorem holds_env {β β':Env}{w:World}{i:Nat}{h:HM}{b:HB}(hs:b.stable h)(hb:∀j,(h j).born=true→β j = β' j)(hi:β i = β' i)(hh:Holds β w i b):Holds β' w i b:=by
 cases b with
 | own t v ex=>
  rcases hh with ⟨g,pre,cs,ha,hg,⟨tl,hcs,hex⟩,hn⟩|⟨hb0,he,k,f,rfl⟩
  ·exact .inl ⟨g,pre,cs,hi ▸ ha,hg,⟨tl,by rw[←zb_.cl hs hb];exact hcs,hex⟩,by rw[←hi];exact hn⟩
  ·exact .inr ⟨hi ▸ hb0,he,k,f,rfl⟩
 | ro v=>
  refine⟨fun a ha j x hx=>hh.1 a (hi ▸ ha) j x (by rw[zb_.cl hs hb];exact hx),fun hn=>hh.2.1 (hi ▸ hn),by rw[←hi];exact hh.2.2⟩
 | raw o=>
  obtain⟨g,h1,h2⟩:=hh
  exact⟨g,hi ▸ h1,h2⟩
 | gone=>trivial
 | dead=>trivial
theorem size_pos_of_cell {β : Env}{v:SV}{j:Nat}{x:Value}(hx:(v.cl β)[j]? = some x):0 < v.size:=by
 rcases Nat.eq_zero_or_pos v.size with h0|h0
 ·have:(v.cl β).length=0:=by rw[zy_,h0]
  rw[List.eq_nil_of_length_eq_zero this]at hx;cases hx
 ·exact h0
theorem holds_world {β : Env}{w w':World}{i:Nat}{b:HB}(h:Holds β w i b)
  (hk:∀a,(β i).1=some a→(b.mine=true∨∃v,b=.ro v∧0 < v.size)→w'.heap[a.block]? = w.heap[a.block]?):Holds β w' i b:=by
 cases b with
 | own t v ex=>
  rcases h with ⟨g,pre,cs,ha,hg,hr,hn⟩|h
  ·exact .inl ⟨g,pre,cs,ha,(hk _ ha (.inl rfl)).trans hg,hr,hn⟩
  ·exact .inr h
 | ro v=>
  refine⟨fun a ha j x hx=>?_,h.2⟩
  have:=h.1 a ha j x hx
  unfold World.cell? at this ⊢
  rw[block_add]at this ⊢
  rw[hk a ha (.inr ⟨v,rfl,size_pos_of_cell hx⟩)];exact this
 | raw o=>
  obtain⟨g,ha,hg⟩:=h
  exact⟨g,ha,(hk _ ha (.inl rfl)).trans hg⟩
 | gone=>trivial
 | dead=>trivial
section
variable {w0:World} {M:Nat→Prop} {β : Env} {h:HM} {w:World}
theorem Rep.keep {w':World}(R:Rep w0 M β h w)(ho:w'.os=w.os)(ht:w'.tape=w.tape)(hu:w'.output=w.output)(hs:w.heap.size≤w'.heap.size)
  (hk:∀g,g < w.heap.size→w'.heap[g]? = w.heap[g]?):Rep w0 M β h w':=
 {os:=ho.trans R.os,tape:=ht.trans R.tape,output:=hu.trans R.output,size:=Nat.le_trans R.size hs
  frame:=fun g hg hm=>(hk g (Nat.lt_of_lt_of_le hg R.size)).trans (R.frame g hg hm)
  nil:=R.nil,nil0:=R.nil0,st:=R.st
  blk:=fun i=>holds_world (R.blk i) fun a ha hm=>hk _ <| by
   rcases hm with hm|⟨v,hv,hz⟩
   ·exact R.lt i a hm ha
   ·exact Nat.lt_of_lt_of_le (R.ro i v a hv ha hz).1 R.size
  own:=R.own,ro:=R.ro,dist:=R.dist
  lt:=fun i a hm ha=>Nat.lt_of_lt_of_le (R.lt i a hm ha) hs }
theorem Rep.drew (R:Rep w0 M β h w):Rep w0 M β h w.drew:=R.keep rfl rfl rfl (Nat.le_refl _) fun _ _=>rfl
theorem Rep.drawn (R:Rep w0 M β h w):Rep w0 M β h { w with drawn:=w.drawn+1 }:=R.keep rfl rfl rfl (Nat.le_refl _) fun _ _=>rfl
theorem Rep.birth (R:Rep w0 M β h w)(m:Nat)(hm:h m=.dead)(e:Option Addr×Nat)(b:HB)(hst:b.stable (upd h m b))(hbn:b.born=true)(hb:Holds (setE β m e) w m b)
  (hmine:∀a,b.mine=true→e.1=some a→(w0.heap.size≤a.block∨M a.block)∧a.block < w.heap.size∧∀i a',(h i).mine=true→(β i).1=some a'→a'.block≠a.block)
  (hro:∀v a,b=.ro v→e.1=some a→0 < v.size→a.block < w0.heap.size∧¬M a.block):Rep w0 M (setE β m e) (upd h m b) w:=by
 have hm0:m≠0:=by rintro rfl;rw[R.nil0]at hm;cases hm
 have hag:∀i,(h i).born=true→β i=setE β m e i:=fun i hi=>(xg_ (by rintro rfl;rw[hm]at hi;cases hi)).symm
 refine { os:=R.os,tape:=R.tape,output:=R.output,size:=R.size,frame:=R.frame,nil:=by rw[xg_ (Ne.symm hm0)];exact R.nil,nil0:=by rw[yp_ (Ne.symm hm0)];exact R.nil0,st:=?_,blk:=?_,own:=?_,ro:=?_,dist:=?_,lt:=?_ }
 ·intro i
  by_cases hi:i=m
  ·subst hi;rw[z1_];exact hst
  ·rw[yp_ hi];exact HB.stable_more (R.st i) fun j hj=>by unfold upd;split<;>simp_all
 ·intro i
  by_cases hi:i=m
  ·subst hi;rw[z1_];exact hb
  ·rw[yp_ hi];exact holds_env (R.st i) hag (xg_ hi).symm (R.blk i)
 ·intro i a hmi ha
  by_cases hi:i=m
  ·subst hi;rw[z1_]at hmi;rw[z4_]at ha;exact(hmine a hmi ha).1
  ·rw[yp_ hi]at hmi;rw[xg_ hi]at ha;exact R.own i a hmi ha
 ·intro i v a hv ha hz
  by_cases hi:i=m
  ·subst hi;rw[z1_]at hv;rw[z4_]at ha;exact hro v a hv ha hz
  ·rw[yp_ hi]at hv;rw[xg_ hi]at ha;exact R.ro i v a hv ha hz
 ·intro i j ai aj hne hmi hmj hai haj
  by_cases hi:i=m<;>by_cases hj:j=m
  ·exact absurd (hi.trans hj.symm) hne
  ·subst hi;rw[z1_]at hmi;rw[z4_]at hai;rw[yp_ hj]at hmj;rw[xg_ hj]at haj
   exact Ne.symm ((hmine ai hmi hai).2.2 j aj hmj haj)
  ·subst hj;rw[z1_]at hmj;rw[z4_]at haj;rw[yp_ hi]at hmi;rw[xg_ hi]at hai
   exact(hmine aj hmj haj).2.2 i ai hmi hai
  ·rw[yp_ hi]at hmi;rw[xg_ hi]at hai;rw[yp_ hj]at hmj;rw[xg_ hj]at haj
   exact R.dist i j ai aj hne hmi hmj hai haj
 ·intro i a hmi ha
  by_cases hi:i=m
  ·subst hi;rw[z1_]at hmi;rw[z4_]at ha;exact(hmine a hmi ha).2.1
  ·rw[yp_ hi]at hmi;rw[xg_ hi]at ha;exact R.lt i a hmi ha
theorem yd_ {β : Env}{h:HM}{m:Nat}{e:Option Addr×Nat}(hm:h m=.dead):∀i,(h i).born=true→β i=setE β m e i:=
 fun i hi=>(xg_ (by rintro rfl;rw[hm]at hi;cases hi)).symm
theorem Rep.alloc (R:Rep w0 M β h w)(m:Nat)(hm:h m=.dead)(cap:Nat)(t:TypeId)(v:SV)(hst:zb_ h v)(hn:∀n k f,v=.arr n k f→n=cap) :
  Rep w0 M (setE β m (some ⟨w.heap.size,0,none⟩,cap)) (upd h m (.own t v true)) (w.alloc (.cells (v.cl β).toArray t)):=by
 have R':=R.keep (w':=w.alloc (.cells (v.cl β).toArray t)) rfl rfl rfl (by simp) fun g hg=>Below.heap_alloc w _ g hg
 refine R'.birth m hm _ _ (zb_.upd hst rfl) rfl (.inl ⟨w.heap.size,[],_,by rw[z4_];rfl,heap_alloc_new _ _,⟨[],by rw[List.append_nil,List.nil_append];exact hst.cl (yd_ hm),fun _=>rfl⟩,fun n k f hv=>?_⟩) (fun a _ ha=>?_) (fun v a hv=>by cases hv)
 ·have:=hn n k f hv
  subst hv;subst this
  rw[z4_]
  refine⟨Nat.le_refl _,Nat.le_of_eq ?_⟩
  show 0+n*k=((SV.arr n k f).cl β).length
  rw[zy_,Nat.zero_add];rfl
 ·injection ha with ha
  subst ha
  exact⟨.inl R.size,by simp,fun i a' hc ha'=>Nat.ne_of_lt (R.lt i a' hc ha')⟩
theorem setp_top {v v' x:SV}{s:Stp}{pa:List Stp}(h:setp v (s::pa) x=some v'):(∀n k f,v'=.arr n k f→∃f0,v=.arr n k f0)∧v'.isAgg=true:=by
 cases v<;>cases s<;>simp only[setp]at h<;>try (cases h;done)
 ·exact d8_
 ·exact d8_
 ·split at h
  ·injection h with h;subst h
   refine⟨fun n k f h=>?_,rfl⟩
   injection h with h1 h2
   subst h1;subst h2
   exact⟨_,rfl⟩
  ·cases h
theorem sane_oneCell {v:Value}(h:sane v=v):v.oneCell'=true:=by
 cases v<;>first|rfl |(simp[sane]at h;done)
theorem Rep.set (R:Rep w0 M β h w){i:Nat}{t:TypeId}{v v':SV}{ex ex':Bool}{g z:Nat}{cs:Array Value}(hb:h i=.own t v ex)(ha:(β i).1=some ⟨g,z,none⟩)
  (hst:zb_ h v') (hB:OwnB β (w.setRow g cs) i t v' ex'):Rep w0 M β (upd h i (.own t v' ex')) (w.setRow g cs):=by
 have hmi:(h i).mine=true:=by rw[hb];rfl
 have hg:=R.own i _ hmi ha
 have hi0:i≠0:=by rintro rfl;rw[R.nil0]at hb;cases hb
 have mine:∀j,(upd h i (.own t v' ex') j).mine=(h j).mine:=fun j=>by
  unfold upd;split
  ·rename_i e;subst e;rw[hb];rfl
  ·rfl
 have born:∀j,(h j).born=true→(upd h i (.own t v' ex') j).born=true:=fun j hj=>by
  unfold upd;split
  ·rfl
  ·exact hj
 refine { os:=R.os,tape:=R.tape,output:=R.output,size:=by rw[setRow_size];exact R.size,frame:=?_,nil:=R.nil,nil0:=by rw[yp_ (Ne.symm hi0)];exact R.nil0,st:=?_,blk:=?_,own:=?_,ro:=?_,dist:=?_,lt:=?_ }
 ·intro k hk hm
  have:k≠g:=by
   rintro rfl
   rcases hg with hg|hg
   ·exact absurd hk (by simpa using hg)
   ·exact hm hg
  rw[setRow_other w g k cs this]
  exact R.frame k hk hm
 ·intro j
  by_cases hj:j=i
  ·subst hj;rw[z1_];exact zb_.more born hst
  ·exact k2_
 ·intro j
  by_cases hj:j=i
  ·subst hj;rw[z1_];exact hB
  ·rw[yp_ hj]
   refine holds_world (R.blk j) fun a haj hk=>setRow_other w g a.block cs ?_
   rcases hk with hk|⟨v,hv,hz⟩
   ·exact R.dist j i a _ hj hk hmi haj ha
   ·intro e
    have hr:=R.ro j v a hv haj hz
    rcases hg with hg|hg
    ·exact absurd hr.1 (by rw[e];simpa using hg)
    ·exact hr.2 (by rw[e];exact hg)
 ·intro j a hm haj
  rw[mine]at hm
  exact R.own j a hm haj
 ·intro j v a hv haj hz
  by_cases hj:j=i
  ·subst hj;rw[z1_]at hv;cases hv
  ·rw[yp_ hj]at hv;exact R.ro j v a hv haj hz
 ·intro j k aj ak hne hmj hmk haj hak
  rw[mine]at hmj hmk
  exact R.dist j k aj ak hne hmj hmk haj hak
 ·intro j a hm haj
  rw[mine]at hm
  rw[setRow_size]
  exact R.lt j a hm haj
theorem Rep.store (R:Rep w0 M β h w){i:Nat}{t:TypeId}{v u x v':SV}{ex:Bool}{pa:List Stp}{c:Prop}(hb:h i=.own t v ex)(hn:nav v pa=some (c,u))(hc:c)
  (hx:x.size=u.size) (hu:0 < u.size) (hs:setp v pa x=some v') (hst:zb_ h x) (hk:∀n k f,v'=.arr n k f→∃f0,v=.arr n k f0) :
  ∃a w',(β i).1=some a∧(∀P:Program,(storeCells (a.add (offp pa)) (x.cl β)).run P w=.ok () w')∧Rep w0 M β (upd h i (.own t v' ex)) w':=by
 obtain⟨hz,pre,post,h1,h2,h3⟩:=setp_spec β pa v c u x v' hn hc hx hs
 have hB:=R.blk i
 have hS:=R.st i
 rw[hb]at hB hS
 rcases hB with ⟨g,pr0,cs,ha,hg,⟨tl,hcs,hex⟩,hsz⟩|⟨hb0,he,k,f,rfl⟩
 ·have hadd:(⟨g,pr0.length,none⟩:Addr).add (offp pa)=⟨g,pr0.length+offp pa,none⟩:=addr_addo ..
  have hlen:cs.size=pr0.length+pre.length+(u.cl β).length+post.length+tl.length:=by
   rw[←Array.length_toList,hcs,h1];simp;omega
  have hxl:(x.cl β).length=(u.cl β).length:=by rw[zy_,zy_,hx]
  have hfin:(cs.toList.take (pr0.length+offp pa+0)++x.cl β ++ cs.toList.drop (pr0.length+offp pa+0+(x.cl β).length)).toArray=(pr0++(v'.cl β ++ tl)).toArray:=by
   congr 1
   rw[Nat.add_zero,hcs,h1,h2,←h3,hxl]
   have e1:(pr0++(pre++u.cl β ++ post++tl)).take (pr0.length+pre.length)=pr0++pre:=by
    rw[List.take_length_add_append];simp[List.append_assoc]
   have e2:(pr0++(pre++u.cl β ++ post++tl)).drop (pr0.length+pre.length+(u.cl β).length)=post++tl:=by
    rw[Nat.add_assoc,List.drop_length_add_append,←List.length_append,List.append_assoc,List.drop_left]
   rw[e1,e2]
   simp[List.append_assoc]
  refine⟨_,_,ha,fun P=>by rw[hadd];exact run_storeCells_at P g (pr0.length+offp pa) t (x.cl β) 0 cs w hg (by rw[hlen,hxl,h3];omega) (fun y hy=>sane_oneCell (cl_sane x y hy)),?_⟩
  refine R.set hb ha (zb_.of_setp hS hst hs) (.inl ⟨g,pr0,_,ha,setRow_heap w g cs _ t _ hg,⟨tl,by rw[hfin],hex⟩,fun n k f hv=>?_⟩)
  obtain⟨f0,hf0⟩:=hk n k f hv
  have:=hsz n k f0 hf0
  refine⟨this.1,Nat.le_trans this.2 (Nat.le_of_eq ?_)⟩
  rw[hfin]
  show cs.size=(pr0++(v'.cl β ++ tl)).length
  rw[List.length_append,List.length_append,zy_,hz,←(Array.length_toList:cs.toList.length=cs.size),hcs,List.length_append,List.length_append,zy_]
 ·have:((SV.arr 0 k f).cl β).length=0:=by rw[zy_];simp[SV.size]
  rw[h1]at this
  simp[zy_]at this
  omega
theorem Rep.forget (R:Rep w0 M β h w)(i:Nat)(hi:(h i).born=true):Rep w0 M β (upd h i .gone) w:=by
 have mine:∀j,(upd h i .gone j).mine=true→(h j).mine=true:=fun j hj=>by
  unfold upd at hj;split at hj
  ·cases hj
  ·exact hj
 have born:∀j,(h j).born=true→(upd h i .gone j).born=true:=fun j hj=>by
  unfold upd;split
  ·rfl
  ·exact hj
 refine { os:=R.os,tape:=R.tape,output:=R.output,size:=R.size,frame:=R.frame,nil:=R.nil,nil0:=?_,st:=?_,blk:=?_,own:=?_,ro:=?_,dist:=?_,lt:=?_ }
 ·unfold upd;split
  ·rfl
  ·exact R.nil0
 ·intro j;by_cases hj:j=i
  ·subst hj;rw[z1_];trivial
  ·exact k2_
 ·intro j;by_cases hj:j=i
  ·subst hj;rw[z1_];trivial
  ·rw[yp_ hj];exact R.blk j
 ·exact fun j a hm ha=>R.own j a (mine j hm) ha
 ·intro j v a hv ha hz;by_cases hj:j=i
  ·subst hj;rw[z1_]at hv;cases hv
  ·rw[yp_ hj]at hv;exact R.ro j v a hv ha hz
 ·exact fun j k aj ak hne hmj hmk=>R.dist j k aj ak hne (mine j hmj) (mine k hmk)
 ·exact fun j a hm ha=>R.lt j a (mine j hm) ha
theorem Rep.move (R:Rep w0 M β h w)(i m:Nat)(hi:(h i).mine=true)(hm:h m=.dead):Rep w0 M (setE β m (β i)) (upd (upd h i .gone) m (h i)) w:=by
 have him:i≠m:=by rintro rfl;rw[hm]at hi;cases hi
 have R1:=R.forget i (by cases hh:h i<;>simp_all [HB.born,HB.mine])
 have hm1:upd h i .gone m=.dead:=by rw[yp_ (Ne.symm him)];exact hm
 have born:∀j,(h j).born=true→(upd (upd h i .gone) m (h i) j).born=true:=fun j hj=>by
  unfold upd;split
  ·cases hh:h i<;>simp_all [HB.born,HB.mine]
  ·split
   ·rfl
   ·exact hj
 refine R1.birth m hm1 _ _ (HB.stable_more (R.st i) born) (by cases hh:h i<;>simp_all [HB.born,HB.mine]) ?_ (fun a hmi ha=>⟨R.own i a hi ha,R.lt i a hi ha,fun j a' hj ha'=>?_⟩) (fun v a hv ha hz=>R.ro i v a hv ha hz)
 ·have hB:=holds_env (β':=setE β m (β i)) (R.st i) (yd_ hm) (xg_ him).symm (R.blk i)
  have e:(setE β m (β i)) i=(setE β m (β i)) m:=by rw[xg_ him,z4_]
  cases hh:h i with
  | own t v ex=>
   rw[hh]at hB
   simp only[Holds,OwnB,e]at hB ⊢
   exact hB
  | raw o=>rw[hh]at hB;simp only[Holds,e]at hB ⊢;exact hB
  | ro v=>rw[hh]at hi;cases hi
  | gone=>trivial
  | dead=>trivial
 ·by_cases hji:j=i
  ·subst hji;rw[z1_]at hj;cases hj
  ·rw[yp_ hji]at hj;exact R.dist j i a' a hji hj hi ha' ha
end
end Go.Proofs.Ytmljmabbopkpiaa.Vm
namespace Go.Proofs.Ytmljmabbopkpiaa.Vm
open Go.RowKit
abbrev Fr:=List (Nat×SV)
def look:Fr→Nat→Option SV
 | [],_=>none
 |(k,v)::l,t=>bif Nat.beq k t then some v else look l t
def ofV:Value→Option SV
 | .int k n=>match n with
  | .ofNat m=>some (.nat k m)
  | .negSucc _=>some (.int k n)
 | .bool b=>some (.bool b)
 | .string s=>some (.str s)
 | .pointer a=>match a with
  | none=>some .nilp
  | some _=>none
 | .slice a n c=>match a,n,c with
  | none,0,0=>some (.sl 0 0 [] 0 0 0 (some 0))
  | _,_,_=>none
 | .nilFunc=>some .nilf
 | _=>none
def ev (φ : Fr):Operand→Option (Prop×SV)
 | .tmp t=>match look φ t with
  | some (.gd b v)=>some (b=true,v)
  | some v=>some (True,v)
  | none=>none
 | .const v=>match ofV v with
  | some v=>some (True,v)
  | none=>none
 | .func f=>some (True,.fn f [])
 | .global _=>none
def Fits (β : Env)(h:HM)(φ : Fr)(a:Act):Prop:=∀k v,look φ k=some v→zb_ h v∧a.tmps.getD k undef=v.den β
theorem ofV_m1 (k:IntKind):ofV (.int k (-1))=some (.int k (-1)):=rfl
theorem ofV_min (k:IntKind):ofV (.int k (-9223372036854775808))=some (.int k (-9223372036854775808)):=rfl
theorem ofV_den {β : Env}{v:Value}{u:SV}(hn:β 0=(none,0))(h:ofV v=some u):u.den β = v:=by
 cases v<;>simp only[ofV]at h<;>try (cases h;done)
 case int k n=>cases n<;>(injection h with h;subst h;rfl)
 case bool=>injection h with h;subst h;rfl
 case string=>injection h with h;subst h;rfl
 case pointer a=>cases a<;>simp only at h<;>first |(cases h;done) |(injection h with h;subst h;rfl)
 case slice a n c=>
  split at h
  ·injection h with h;subst h;simp[SV.den,hn]
  ·cases h
 case nilFunc=>injection h with h;subst h;rfl
theorem ofV_stable {h:HM}(h0:h 0=.gone){v:Value}{u:SV}(hu:ofV v=some u):zb_ h u:=by
 have e0:(h 0).born=true:=by rw[h0];rfl
 cases v<;>simp only[ofV]at hu<;>try (cases hu;done)
 case int k n=>cases n<;>(injection hu with hu;subst hu;trivial)
 case bool=>injection hu with hu;subst hu;trivial
 case string=>injection hu with hu;subst hu;trivial
 case pointer a=>cases a<;>simp only at hu<;>first |(cases hu;done) |(injection hu with hu;subst hu;trivial)
 case slice a n c=>
  split at hu
  ·injection hu with hu;subst hu;exact⟨e0,e0⟩
  ·cases hu
 case nilFunc=>injection hu with hu;subst hu;trivial
theorem ev_spec {β : Env}{h:HM}{φ : Fr}{a:Act}(hF:Fits β h φ a)(hn:β 0=(none,0))(h0:h 0=.gone){x:Operand}{c:Prop}{v:SV}(he:ev φ x=some (c,v))(hc:c):zb_ h v∧a.eval x=v.den β:=by
 cases x with
 | tmp t=>
  simp only[ev]at he
  split at he
  ·rename_i b u hu
   simp only[Option.some.injEq,Prod.mk.injEq]at he
   obtain⟨rfl,rfl⟩:=he
   obtain⟨h1,h2⟩:=hF t _ hu
   simp only[zb_]at h1
   subst hc
   exact⟨h1 rfl,h2⟩
  ·rename_i u hg hu
   simp only[Option.some.injEq,Prod.mk.injEq]at he
   obtain⟨rfl,rfl⟩:=he
   exact hF t _ hu
  ·cases he
 | const w=>
  simp only[ev]at he
  split at he
  ·rename_i u hu
   simp only[Option.some.injEq,Prod.mk.injEq]at he
   obtain⟨rfl,rfl⟩:=he
   exact⟨ofV_stable h0 hu,(ofV_den hn hu).symm⟩
  ·cases he
 | func f=>
  simp only[ev,Option.some.injEq,Prod.mk.injEq]at he
  obtain⟨rfl,rfl⟩:=he
  exact⟨trivial,rfl⟩
 | global g=>simp only[ev]at he;cases he
inductive TK where
 | cell
 | bool
 | str
 | func
 | int (k:IntKind)
 /-- to variables of k cells -/
 | ptr (k:Nat)
 /-- of elements of type e, of k cells and b bytes each -/
 | slice (e:TypeId) (k b:Nat)
 /-- of n cells: each field's offset, its cells, and whether it is a struct or an array -/
 | struct (n:Nat) (os:List (Nat×Nat×Bool))
 | array (e:TypeId) (n k:Nat) (g:Bool)
def TK.size:TK→Nat
 | .struct n _=>n
 | .array _ n k _=>n*k
 | _=>1
def TK.agg:TK→Bool
 | .struct ..=>true
 | .array ..=>true
 | _=>false
def isAggD:TypeDesc→Bool
 | .struct _ | .array _ _=>true
 | _=>false
def HasSize (P:Program)(t:TypeId)(k:Nat)(g:Bool):Prop:=∃i d,P.info? t=some i∧i.size=k∧P.underlying t=some d∧isAggD d=g
def FitsK:TK→Program→TypeDesc→Prop
 | .cell,P,d=>isAggD d=false
 | .bool,P,d=>d=.bool
 | .str,P,d=>d=.string
 | .func,P,d=>∃a b c,d=.func a b c
 | .int k,P,d=>d=.int k
 | .ptr k,P,d=>∃e i,d=.pointer e∧P.info? e=some i∧i.size=k∧0 < k
 | .slice e k b,P,d=>∃i,d=.slice e∧P.info? e=some i∧i.size=k∧i.bytes=b∧0 < k
 | .struct n os,P,d=>∃fs,d=.struct fs∧os.length=fs.size∧∀(j o s:Nat) (g:Bool),os[j]? = some (o,s,g)→∃f:Field,fs[j]? = some f∧f.offset=o∧HasSize P f.type s g∧0 < s
 | .array e n k g,P,d=>d=.array n e∧HasSize P e k g∧0 < k
def kn:IntKind→Nat
 | .i8=>0 | .i16=>1 | .i32=>2 | .i64=>3 | .u8=>4 | .u16=>5 | .u32=>6 | .u64=>7
def keq (a b:IntKind):Bool:=Nat.beq (kn a) (kn b)
theorem keq_eq {a b:IntKind}(h:keq a b=true):a=b:=by
 have:=Nat.eq_of_beq_eq_true h
 cases a<;>cases b<;>first|rfl |(simp[kn]at this;done)
inductive ET where
 | int (k:IntKind)
 | bool
 | str
 | struct (fs:List ET)
 | arr (n k:Nat) (e:ET)
mutual
def ET.size:ET→Nat
 | .struct fs=>sizeET fs
 | .arr n k _=>n*k
 | _=>1
def sizeET:List ET→Nat
 | []=>0
 | e::l=>e.size+sizeET l
end
mutual
def ET.depth:ET→Nat
 | .struct fs=>depthET fs+1
 | .arr _ _ e=>e.depth+1
 | _=>1
def depthET:List ET→Nat
 | []=>0
 | e::l=>max e.depth (depthET l)
end
def ET.agg:ET→Bool
 | .struct _=>true
 | .arr ..=>true
 | _=>false
def kndOf:SV→Option IntKind
 | .int k _=>some k
 | .nat k _=>some k
 | _=>none
mutual
def yc_:ET→SV→Prop
 | .int k,v=>kndOf v=some k
 | .bool,v=>match v with
  | .bool _=>True
  | _=>False
 | .str,v=>match v with
  | .str _=>True
  | _=>False
 | .struct fs,v=>match v with
  | .agg l=>yf_ fs l
  | _=>False
 | .arr n k e,v=>match v with
  | .arr n' k' f=>n=n'∧k=k'∧∀q,q < n→yc_ e (f q)
  | _=>False
def yf_:List ET→List SV→Prop
 | [],l=>match l with
  | []=>True
  | _::_=>False
 | e::es,l=>match l with
  | x::xs=>yc_ e x∧yf_ es xs
  | []=>False
end
def allB:Nat→(Nat→Bool)→Bool
 | 0,_=>true
 | n+1,p=>allB n p && p n
def numOf:SV→Int
 | .int _ n=>n
 | .nat _ n=>(n:Int)
 | _=>0
def ieq (a b:Int):Bool:=decide (a=b)
mutual
def eqB:ET→SV→SV→Bool
 | .int _,x,y=>ieq (numOf x) (numOf y)
 | .bool,x,y=>match x,y with
  | .bool a,.bool b=>a == b
  | _,_=>false
 | .str,x,y=>match x,y with
  | .str a,.str b=>a.toList == b.toList
  | _,_=>false
 | .struct fs,x,y=>match x,y with
  | .agg l,.agg m=>eqBL fs l m
  | _,_=>false
 | .arr n _ e,x,y=>match x,y with
  | .arr _ _ f,.arr _ _ g=>allB n fun q=>eqB e (f q) (g q)
  | _,_=>false
def eqBL:List ET→List SV→List SV→Bool
 | [],_,_=>true
 | e::es,l,m=>match l,m with
  | x::xs,y::ys=>eqB e x y && eqBL es xs ys
  | _,_=>false
end
def sizeIs (P:Program)(t:TypeId)(n:Nat):Bool:=match P.info? t,P.underlying t with
 | some i,some _=>Nat.beq i.size n
 | _,_=>false
mutual
def etOk (P:Program):ET→TypeId→Bool
 | .int k,t=>match P.underlying t with
  | some (.int k')=>keq k k'
  | _=>false
 | .bool,t=>match P.underlying t with
  | some .bool=>true
  | _=>false
 | .str,t=>match P.underlying t with
  | some .string=>true
  | _=>false
 | .struct fs,t=>match P.underlying t with
  | some (.struct F)=>!P.stoodInHeld t && etFs P fs F.toList 0
  | _=>false
 | .arr n k e,t=>match P.underlying t with
  | some (.array n' e')=>Nat.beq n n' && Nat.beq e.size k && sizeIs P e' k && etOk P e e'
  | _=>false
def etFs (P:Program):List ET→List Field→Nat→Bool
 | [],F,_=>F.isEmpty
 | e::es,F,o=>match F with
  | f :: fs => !(f.name == "_") && Nat.beq f.offset o && sizeIs P f.type e.size && etOk P e f.type && etFs P es fs (o + e.size)
  | []=>false
end
structure Tab where
 ty:Nat→Option TK
 zero:Nat→Option SV
 eq:Nat→Option ET
structure TabOk (P:Program) (T:Tab):Prop where
 ty:∀t K,T.ty t=some K→∃i d,P.info? t=some i∧i.size=K.size∧P.underlying t=some d∧FitsK K P d
 zero:∀t z,T.zero t=some z→z.plain=true∧(∀h:HM,h 0=.gone→zb_ h z)∧∃i,P.info? t=some i∧z.size=i.size∧∀β : Env,β 0=(none,0)→i.zero=some (z.den β)
 eq:∀t e,T.eq t=some e→etOk P e t=true∧e.agg=true∧Nat.blt e.depth 1000=true∧P.eqGuardType P.depth t=false
theorem FitsK.agg {K:TK}{P:Program}{d:TypeDesc}(h:FitsK K P d):isAggD d=K.agg:=by
 cases K with
 | cell=>exact h
 | bool=>subst h;rfl
 | str=>subst h;rfl
 | func=>obtain⟨_,_,_,rfl⟩:=h;rfl
 | int k=>subst h;rfl
 | ptr k=>obtain⟨_,_,rfl,_⟩:=h;rfl
 | slice e k b=>obtain⟨i,rfl,_⟩:=h;rfl
 | struct n os=>obtain⟨fs,rfl,_⟩:=h;rfl
 | array e n k g=>obtain⟨rfl,_⟩:=h;rfl
theorem run_isAgg {P:Program}{t:TypeId}{d:TypeDesc}(h:P.underlying t=some d)(w:World):(isAgg t).run P w=.ok (isAggD d) w:=by
 unfold isAgg
 simp only[Sem.run_bind,run_underlying h,Result.andThen_ok]
 cases d<;>rfl
theorem x4_ {P:Program}{t:TypeId}{i:TypeInfo}(h:P.info? t=some i)(w:World):(sizeOf t).run P w=.ok i.size w:=by
 simp[sizeOf,typeInfo,h]
def inR:IntKind→Int→Prop
 | .i8,n=>-128≤n∧n≤127
 | .i16,n=>-32768≤n∧n≤32767
 | .i32,n=>-2147483648≤n∧n≤2147483647
 | .i64,n=>-9223372036854775808≤n∧n≤9223372036854775807
 | .u8,n=>0≤n∧n≤255
 | .u16,n=>0≤n∧n≤65535
 | .u32,n=>0≤n∧n≤4294967295
 | .u64,n=>0≤n∧n≤18446744073709551615
def inN:IntKind→Nat→Prop
 | .i8,n=>n≤127
 | .i16,n=>n≤32767
 | .i32,n=>n≤2147483647
 | .i64,n=>n≤9223372036854775807
 | .u8,n=>n≤255
 | .u16,n=>n≤65535
 | .u32,n=>n≤4294967295
 | .u64,n=>n≤18446744073709551615
theorem wrap_inR {k:IntKind}{n:Int}(h:inR k n):k.wrap n=n:=by
 cases k<;>simp only[inR]at h<;>simp only[IntKind.wrap,IntKind.bits,IntKind.signed,Bool.false_and,Bool.true_and]<;>simp<;>omega
theorem inN_inR {k:IntKind}{n:Nat}(h:inN k n):inR k (n:Int):=by
 cases k<;>simp only[inN]at h<;>simp only[inR]<;>omega
theorem wrap_inN {k:IntKind}{n:Nat}(h:inN k n):k.wrap (n:Int)=n:=wrap_inR (inN_inR h)
def arI:BinOp→Int→Int→Option Int
 | .add,a,b=>some (a+b)
 | .sub,a,b=>some (a - b)
 | .mul,a,b=>some (a*b)
 | _,_,_=>none
def arN:BinOp→Nat→Nat→Option Nat
 | .add,a,b=>some (a+b)
 | .mul,a,b=>some (a*b)
 | _,_,_=>none
def cmpI:BinOp→Int→Int→Option Bool
 | .eql,a,b=>some (decide (a=b))
 | .neq,a,b=>some (!decide (a=b))
 | .lss,a,b=>some (decide (a < b))
 | .leq,a,b=>some (decide (a≤b))
 | .gtr,a,b=>some (decide (b < a))
 | .geq,a,b=>some (decide (b≤a))
 | _,_,_=>none
def cmpN:BinOp→Nat→Nat→Option Bool
 | .eql,a,b=>some (decide (a=b))
 | .neq,a,b=>some (!decide (a=b))
 | .lss,a,b=>some (decide (a < b))
 | .leq,a,b=>some (decide (a≤b))
 | .gtr,a,b=>some (decide (b < a))
 | .geq,a,b=>some (decide (b≤a))
 | _,_,_=>none
theorem run_arI {P:Program}{w:World}{op:BinOp}{k:IntKind}{a b r:Int}{t:TypeId}(h:arI op a b=some r):(binOp op t (.int k a) (.int k b)).run P w=.ok (.int k (k.wrap r)) w:=by
 cases op<;>simp only[arI]at h<;>try (cases h;done)
 all_goals (injection h with h;subst h;simp[binOp,Op.intArith])
theorem run_arN {P:Program}{w:World}{op:BinOp}{k:IntKind}{a b r:Nat}{t:TypeId}(h:arN op a b=some r):(binOp op t (.int k (a:Int)) (.int k (b:Int))).run P w=.ok (.int k (k.wrap (r:Int))) w:=by
 cases op<;>simp only[arN]at h<;>try (cases h;done)
 all_goals (injection h with h;subst h;simp[binOp,Op.intArith])
theorem run_cmpI {P:Program}{w:World}{op:BinOp}{k:IntKind}{a b:Int}{r:Bool}{t:TypeId}(h:cmpI op a b=some r):(binOp op t (.int k a) (.int k b)).run P w=.ok (.bool r) w:=by
 cases op<;>simp only[cmpI]at h<;>try (cases h;done)
 all_goals (injection h with h;subst h;simp only[binOp,ne_eq,not_true_eq_false,if_false,Op.intCmp,Sem.run_pure];try rfl)
theorem run_cmpN {P:Program}{w:World}{op:BinOp}{k:IntKind}{a b:Nat}{r:Bool}{t:TypeId}(h:cmpN op a b=some r):(binOp op t (.int k (a:Int)) (.int k (b:Int))).run P w=.ok (.bool r) w:=by
 cases op<;>simp only[cmpN]at h<;>try (cases h;done)
 all_goals (injection h with h;subst h;simp only[binOp,ne_eq,not_true_eq_false,if_false,Op.intCmp,Sem.run_pure];(try simp only[Int.ofNat_lt,Int.ofNat_le,Int.natCast_inj]);try (first|rfl |(by_cases hab:a=b<;>simp[hab]<;>omega)))
theorem run_quo {P:Program}{w:World}{k:IntKind}{a b:Int}{t:TypeId}(h:b≠0):(binOp .quo t (.int k a) (.int k b)).run P w=.ok (.int k (k.wrap (a.tdiv b))) w:=by
 simp[binOp,Op.intDiv,h]
theorem run_rem {P:Program}{w:World}{k:IntKind}{a b:Int}{t:TypeId}(h:b≠0):(binOp .rem t (.int k a) (.int k b)).run P w=.ok (.int k (a.tmod b)) w:=by
 simp[binOp,Op.intDiv,h]
theorem run_shr {P:Program}{w:World}{k k':IntKind}{a b:Nat}{t:TypeId}:(binOp .shr t (.int k (a:Int)) (.int k' (b:Int))).run P w=.ok (.int k ((a / 2 ^ (min b k.bits):Nat):Int)) w:=by
 have:¬((b:Int) < 0):=by omega
 simp[binOp,Op.shift,this]
 exact Int.fdiv_eq_ediv_of_nonneg _ (by have:(0:Int) < 2 ^ min b k.bits:=Int.pow_pos (by omega);omega)
theorem run_shl {P:Program}{w:World}{k k':IntKind}{a b:Nat}{t:TypeId}(hb:b < k.bits)(hr:inN k (a*2 ^ b)):(binOp .shl t (.int k (a:Int)) (.int k' (b:Int))).run P w=.ok (.int k ((a*2 ^ b:Nat):Int)) w:=by
 have:¬((b:Int) < 0):=by omega
 have e:min b k.bits=b:=Nat.min_eq_left (by omega)
 have e2:(a:Int)*2 ^ b=((a*2 ^ b:Nat):Int):=by simp
 simp only[binOp,Op.shift,this,if_false,Int.toNat_natCast,e,Sem.run_pure,e2,wrap_inN hr]
theorem run_and {P:Program}{w:World}{k:IntKind}{a b:Nat}{t:TypeId}(ha:inN k a)(hb:inN k b):(binOp .and t (.int k (a:Int)) (.int k (b:Int))).run P w=.ok (.int k ((a &&& b:Nat):Int)) w:=by
 have hk:∀n,inN k n→n < 2 ^ k.bits:=by intro n hn;cases k<;>simp only[inN]at hn<;>simp only[IntKind.bits]<;>omega
 have e:((BitVec.ofInt k.bits (a:Int)) &&& (BitVec.ofInt k.bits (b:Int))).toNat=a &&& b:=by
  rw[BitVec.toNat_and]
  simp only[BitVec.toNat_ofInt]
  have h1:=hk a ha
  have h2:=hk b hb
  have e1:((a:Int) % ((2 ^ k.bits:Nat):Int)).toNat=a:=by rw[Int.emod_eq_of_lt (by omega) (by exact_mod_cast h1)];rfl
  have e2:((b:Int) % ((2 ^ k.bits:Nat):Int)).toNat=b:=by rw[Int.emod_eq_of_lt (by omega) (by exact_mod_cast h2)];rfl
  rw[e1,e2]
 have hle:a &&& b≤a:=Nat.and_le_left
 have hr:inN k (a &&& b):=by cases k<;>simp only[inN]at ha ⊢<;>omega
 simp only[binOp,ne_eq,not_true_eq_false,if_false,Op.intBits,Sem.run_pure,e,wrap_inN hr]
def binI (op:BinOp)(k:IntKind)(a b:Int):Option (Prop×SV):=
 match op with
 | .quo=>some (b≠0∧inR k (a.tdiv b),.int k (a.tdiv b))
 | .rem=>some (b≠0,.int k (a.tmod b))
 | _=>match arI op a b with
  | some r=>bif keq k .u64 then some (True,.int k (k.wrap r))else some (inR k r,.int k r)
  | none=>match cmpI op a b with
   | some r=>some (True,.bool r)
   | none=>none
def binN (op:BinOp)(k:IntKind)(a b:Nat):Option (Prop×SV):=
 match op with
 | .quo=>some (b≠0∧inN k (a / b),.nat k (a / b))
 | .rem=>some (b≠0,.nat k (a % b))
 | .shr=>some (True,.nat k (a / 2 ^ (min b k.bits)))
 | .and=>some (inN k a∧inN k b,.nat k (a &&& b))
 | .shl=>some (b < k.bits∧inN k (a*2 ^ b),.nat k (a*2 ^ b))
 | _=>match arN op a b with
  | some r=>some (inN k r,.nat k r)
  | none=>match cmpN op a b with
   | some r=>some (True,.bool r)
   | none=>binI op k a b
def binE (op:BinOp)(b:Bool):Option (Prop×SV):=match op with
 | .eql=>some (True,.bool b)
 | .neq=>some (True,.bool (!b))
 | _=>none
def bin (K:Option TK)(op:BinOp):SV→SV→Option (Prop×SV)
 | .nat k a,y=>match y with
  | .nat k' b=>bif keq k k' then binN op k a b else match op with
   | .shr=>some (True,.nat k (a / 2 ^ (min b k.bits)))
   | .shl=>some (b < k.bits∧inN k (a*2 ^ b),.nat k (a*2 ^ b))
   | _=>none
  | .int k' b=>bif keq k k' then binI op k a b else none
  | _=>none
 | .int k a,y=>match y with
  | .nat k' b=>bif keq k k' then binI op k a b else none
  | .int k' b=>bif keq k k' then binI op k a b else none
  | _=>none
 | .bool a,y=>match K,y with
  | some .bool,.bool b=>binE op (a == b)
  | _,_=>none
 | .str a,y=>match y with
  | .str b=>binE op (a.toList == b.toList)
  | _=>none
 | .nilp,y=>match K,y with
  | some (.ptr _),.nilp=>binE op true
  | some (.ptr _),.ptr _ _=>binE op false
  | _,_=>none
 | .ptr i pa,y=>match K,y with
  | some (.ptr _),.nilp=>binE op false
  | _,_=>none
 | .fn f caps,y=>match K,y with
  | some .func,.nilf=>binE op false
  | _,_=>none
 | .nilf,y=>match K,y with
  | some .func,.nilf=>binE op true
  | some .func,.fn _ _=>binE op false
  | _,_=>none
 | _,_=>none
theorem stable_int {h:HM}{k:IntKind}{n:Int}:zb_ h (.int k n):=trivial
theorem stable_nat {h:HM}{k:IntKind}{n:Nat}:zb_ h (.nat k n):=trivial
theorem stable_bool {h:HM}{b:Bool}:zb_ h (.bool b):=trivial
section
variable {P:Program} {w:World} {β : Env} {h:HM}
def binS (op:BinOp)(t:TypeId)(x y:Operand)(a b:Value):Sem Value:=do eqGuard op t x y a b;binOp op t a b
theorem binI_ok {op:BinOp}{k:IntKind}{a b:Int}{c:Prop}{v:SV}{t:TypeId}(hb:binI op k a b=some (c,v))(hc:c) :
  (binOp op t (.int k a) (.int k b)).run P w=.ok (v.den β) w∧zb_ h v:=by
 unfold binI at hb
 split at hb
 ·simp only[Option.some.injEq,Prod.mk.injEq]at hb
  obtain⟨rfl,rfl⟩:=hb
  exact⟨by rw[run_quo hc.1,wrap_inR hc.2];rfl,stable_int⟩
 ·simp only[Option.some.injEq,Prod.mk.injEq]at hb
  obtain⟨rfl,rfl⟩:=hb
  exact⟨by rw[run_rem hc];rfl,stable_int⟩
 ·split at hb
  ·rename_i r hr
   cases hk:keq k .u64
   ·rw[hk]at hb
    simp only[cond_false,Option.some.injEq,Prod.mk.injEq]at hb
    obtain⟨rfl,rfl⟩:=hb
    exact⟨by rw[run_arI hr,wrap_inR hc];rfl,stable_int⟩
   ·rw[hk]at hb
    simp only[cond_true,Option.some.injEq,Prod.mk.injEq]at hb
    obtain⟨rfl,rfl⟩:=hb
    exact⟨by rw[run_arI hr];rfl,stable_int⟩
  ·split at hb
   ·rename_i r hr
    simp only[Option.some.injEq,Prod.mk.injEq]at hb
    obtain⟨rfl,rfl⟩:=hb
    exact⟨by rw[run_cmpI hr];rfl,stable_bool⟩
   ·cases hb
theorem binN_ok {op:BinOp}{k:IntKind}{a b:Nat}{c:Prop}{v:SV}{t:TypeId}(hb:binN op k a b=some (c,v))(hc:c) :
  (binOp op t (.int k (a:Int)) (.int k (b:Int))).run P w=.ok (v.den β) w∧zb_ h v:=by
 unfold binN at hb
 split at hb
 ·simp only[Option.some.injEq,Prod.mk.injEq]at hb
  obtain⟨rfl,rfl⟩:=hb
  have h0:(b:Int)≠0:=by omega
  exact⟨by rw[run_quo h0,show (a:Int).tdiv (b:Int)=((a / b:Nat):Int) from(Int.ofNat_tdiv a b).symm,wrap_inN hc.2];rfl,stable_nat⟩
 ·simp only[Option.some.injEq,Prod.mk.injEq]at hb
  obtain⟨rfl,rfl⟩:=hb
  have h0:(b:Int)≠0:=by omega
  exact⟨by rw[run_rem h0,show (a:Int).tmod (b:Int)=((a % b:Nat):Int) from(Int.ofNat_tmod a b).symm];rfl,stable_nat⟩
 ·simp only[Option.some.injEq,Prod.mk.injEq]at hb
  obtain⟨rfl,rfl⟩:=hb
  exact⟨by rw[run_shr];rfl,stable_nat⟩
 ·simp only[Option.some.injEq,Prod.mk.injEq]at hb
  obtain⟨rfl,rfl⟩:=hb
  exact⟨by rw[run_and hc.1 hc.2];rfl,stable_nat⟩
 ·simp only[Option.some.injEq,Prod.mk.injEq]at hb
  obtain⟨rfl,rfl⟩:=hb
  exact⟨by rw[run_shl hc.1 hc.2];rfl,stable_nat⟩
 ·split at hb
  ·rename_i r hr
   simp only[Option.some.injEq,Prod.mk.injEq]at hb
   obtain⟨rfl,rfl⟩:=hb
   exact⟨by rw[run_arN hr,wrap_inN hc];rfl,stable_nat⟩
  ·split at hb
   ·rename_i r hr
    simp only[Option.some.injEq,Prod.mk.injEq]at hb
    obtain⟨rfl,rfl⟩:=hb
    exact⟨by rw[run_cmpN hr];rfl,stable_bool⟩
   ·exact binI_ok hb hc
theorem run_eqGuard_cells (op:BinOp)(t:TypeId)(x y:Operand)(a b:Value)(h1:∀cs,a≠.agg cs)(h2:a≠.nilIface):(eqGuard op t x y a b).run P w=.ok () w:=by
 unfold eqGuard
 cases op<;>simp<;>(cases a<;>cases b<;>simp_all)
theorem binE_ok {op:BinOp}{r:Bool}{c:Prop}{v:SV}{t:TypeId}{x y:Value}(hb:binE op r=some (c,v))(he:(Op.equal t x y).run P w=.ok r w)
  (hop:∀op,op=.eql∨op=.neq→binOp op t x y=(if op=.eql then(do pure (.bool (←Op.equal t x y)))else(do pure (.bool (!(←Op.equal t x y)))))) :
  (binOp op t x y).run P w=.ok (v.den β) w∧zb_ h v:=by
 unfold binE at hb
 split at hb
 ·simp only[Option.some.injEq,Prod.mk.injEq]at hb
  obtain⟨rfl,rfl⟩:=hb
  exact⟨by rw[hop _ (.inl rfl)];simp[he,SV.den],stable_bool⟩
 ·simp only[Option.some.injEq,Prod.mk.injEq]at hb
  obtain⟨rfl,rfl⟩:=hb
  exact⟨by rw[hop _ (.inr rfl)];simp[he,SV.den],stable_bool⟩
 ·cases hb
theorem eqIn_nil_ptr (d:Nat)(t:TypeId)(e:TypeId)(p:Option Addr)(hd:P.underlying t=some (.pointer e)):(Op.equalIn (d+1) t (.pointer none) (.pointer p)).run P w=.ok p.isNone w:=by
 cases p<;>simp[Op.equalIn,run_underlying hd]
theorem eqIn_fn_nil (d:Nat)(t:TypeId)(a b c)(f:Fn)(x y:Array Value)(hd:P.underlying t=some (.func a b c)):(Op.equalIn (d+1) t (.func f x y) .nilFunc).run P w=.ok false w:=by
 simp[Op.equalIn,run_underlying hd]
theorem eqIn_nil_fn (d:Nat)(t:TypeId)(a b c)(f:Fn)(x y:Array Value)(hd:P.underlying t=some (.func a b c)):(Op.equalIn (d+1) t .nilFunc (.func f x y)).run P w=.ok false w:=by
 simp[Op.equalIn,run_underlying hd]
theorem eqIn_nil_nil (d:Nat)(t:TypeId)(a b c)(hd:P.underlying t=some (.func a b c)):(Op.equalIn (d+1) t .nilFunc .nilFunc).run P w=.ok true w:=by
 simp[Op.equalIn,run_underlying hd]
theorem bin_ok {T:Tab}(hT:TabOk P T){op:BinOp}{x y:SV}{ox oy:Operand}{c:Prop}{v:SV}{t:TypeId}(hb:bin (T.ty t) op x y=some (c,v))(hc:c) :
  (binS op t ox oy (x.den β) (y.den β)).run P w=.ok (v.den β) w∧zb_ h v:=by
 have main:(binOp op t (x.den β) (y.den β)).run P w=.ok (v.den β) w∧zb_ h v:=by
  have ptr:∀n,T.ty t=some (.ptr n)→P.underlying t=some (.pointer (P.pointee t)):=fun n hK=>by
   obtain⟨i,d,hi,hs,hd,e,i',rfl,_⟩:=hT.ty t _ hK
   simp[Program.pointee,hd]
  have fnc:T.ty t=some .func→∃a b c,P.underlying t=some (.func a b c):=fun hK=>by
   obtain⟨i,d,hi,hs,hd,a,b,c,rfl⟩:=hT.ty t _ hK
   exact⟨a,b,c,hd⟩
  cases x<;>simp only[bin]at hb<;>try (cases hb;done)
  case int k a=>
   cases y<;>simp only at hb<;>try (cases hb;done)
   all_goals
    rename_i k' b
    cases hk:keq k k' with
    | false=>rw[hk]at hb;cases hb
    | true=>
     rw[hk]at hb
     have hk:=keq_eq hk
     subst hk
     exact binI_ok hb hc
  case nat k a=>
   cases y<;>simp only at hb<;>try (cases hb;done)
   ·rename_i k' b
    cases hk:keq k k' with
    | false=>rw[hk]at hb;cases hb
    | true=>
     rw[hk]at hb
     have hk:=keq_eq hk
     subst hk
     exact binI_ok hb hc
   ·rename_i k' b
    cases hk:keq k k' with
    | true=>
     rw[hk]at hb
     have hk:=keq_eq hk
     subst hk
     exact binN_ok hb hc
    | false=>
     rw[hk]at hb
     simp only[cond_false]at hb
     split at hb
     ·simp only[Option.some.injEq,Prod.mk.injEq]at hb
      obtain⟨rfl,rfl⟩:=hb
      exact⟨by show (binOp .shr t (.int k (a:Int)) (.int k' (b:Int))).run P w=_;rw[run_shr];rfl,stable_nat⟩
     ·simp only[Option.some.injEq,Prod.mk.injEq]at hb
      obtain⟨rfl,rfl⟩:=hb
      exact⟨by show (binOp .shl t (.int k (a:Int)) (.int k' (b:Int))).run P w=_;rw[run_shl hc.1 hc.2];rfl,stable_nat⟩
     ·cases hb
  case bool a=>
   split at hb
   ·rename_i b hK
    obtain⟨i,d,hi,hs,hd,hf⟩:=hT.ty t _ hK
    have hd2:d=.bool:=hf
    subst hd2
    exact binE_ok hb (run_equalIn_bool w 9999 t a b hd) (fun op hop=>by rcases hop with rfl|rfl<;>rfl)
   ·cases hb
  case str a=>
   cases y<;>simp only at hb<;>try (cases hb;done)
   unfold binE at hb
   split at hb<;>first |(cases hb;done)|skip
   all_goals
    simp only[Option.some.injEq,Prod.mk.injEq]at hb
    obtain⟨rfl,rfl⟩:=hb
    exact⟨rfl,stable_bool⟩
  case nilp=>
   split at hb
   ·rename_i n hK
    exact binE_ok hb (run_equal_pointer_nil w t none (ptr _ hK)) (fun op hop=>by rcases hop with rfl|rfl<;>rfl)
   ·rename_i n i pa hK
    exact binE_ok hb (eqIn_nil_ptr 9999 t _ _ (ptr _ hK)) (fun op hop=>by rcases hop with rfl|rfl<;>rfl)
   ·cases hb
  case ptr i pa=>
   split at hb
   ·rename_i n hK
    exact binE_ok hb (run_equal_pointer_nil w t _ (ptr _ hK)) (fun op hop=>by rcases hop with rfl|rfl<;>rfl)
   ·cases hb
  case fn f caps=>
   split at hb
   ·rename_i hK
    obtain⟨a,b,c,hd⟩:=fnc hK
    exact binE_ok hb (eqIn_fn_nil 9999 t a b c _ _ _ hd) (fun op hop=>by rcases hop with rfl|rfl<;>rfl)
   ·cases hb
  case nilf=>
   split at hb
   ·rename_i hK
    obtain⟨a,b,c,hd⟩:=fnc hK
    exact binE_ok hb (eqIn_nil_nil 9999 t a b c hd) (fun op hop=>by rcases hop with rfl|rfl<;>rfl)
   ·rename_i hK
    obtain⟨a,b,c,hd⟩:=fnc hK
    exact binE_ok hb (eqIn_nil_fn 9999 t a b c _ _ _ hd) (fun op hop=>by rcases hop with rfl|rfl<;>rfl)
   ·cases hb
 refine⟨?_,main.2⟩
 unfold binS
 rw[Sem.run_bind,run_eqGuard_cells]
 ·exact main.1
 ·cases x<;>simp only[bin]at hb<;>first |(cases hb;done) |(intro cs hcs;cases hcs;done)
 ·cases x<;>simp only[bin]at hb<;>first |(cases hb;done) |(intro hcs;cases hcs;done)
end
end Go.Proofs.Ytmljmabbopkpiaa.Vm
end

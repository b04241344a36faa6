import Derived.Test.YtmljmabbopkpiaaC1
import Derived.Test.YtmljmabbopkpiaaC6
import Derived.RegionTactic
import Derived.OwnWalk
import Derived.Laws.Rows
import Derived.WalkSpells
import Derived.RangeFuncRecord
import Derived.RangeFuncCalls
import Derived.RangeFuncSeq
import Derived.OrdersIn
import Derived.RangeFuncLeaves
set_option linter.unusedSimpArgs false
set_option linter.unusedVariables false
set_option maxRecDepth 100000
section
namespace Go.Proofs.Ytmljmabbopkpiaa
open Go.RowKit
theorem block_of_add (a:Addr)(n:Nat):(a.add n).block=a.block:=by unfold Addr.add;split<;>rfl
def xi_ (w:World)(B size:Nat)(A:Option Addr)(n:Nat)(xs:List Value):Prop:=
 xs.length=n*size∧(0 < n→∃ad,A=some ad∧ad.block < B∧∀j u,xs[j]? = some u→w.cell? (ad.add j)=some u)
section
variable {w w':World} {B B' size n:Nat} {A:Option Addr} {xs:List Value}
theorem xi_.none_:xi_ w B size A 0 []:=⟨by simp,fun h=>absurd h (by omega)⟩
theorem xi_.at_ {k:Nat}(h:xi_ w B 1 A n xs)(hk:k < n):∃ad u,A=some ad∧ad.block < B∧xs[k]? = some u∧w.cell? (ad.add k)=some u:=by
 obtain⟨ad,e,hb,hc⟩:=h.2 (by omega)
 have hl:k < xs.length:=by have:=h.1;omega
 exact⟨ad,xs[k],e,hb,List.getElem?_eq_getElem hl,hc k _ (List.getElem?_eq_getElem hl)⟩
theorem xi_.keep (h:xi_ w B size A n xs)(hk:∀p:Addr,p.block < B→w'.cell? p=w.cell? p):xi_ w' B size A n xs:=
 ⟨h.1,fun hn=>by
  obtain⟨ad,e,hb,hc⟩:=h.2 hn
  exact⟨ad,e,hb,fun j u hu=>(hk _ (by rw[block_of_add];exact hb)).trans (hc j u hu)⟩⟩
theorem xi_.more (h:xi_ w B size A n xs)(hB:B≤B'):xi_ w B' size A n xs:=
 ⟨h.1,fun hn=>by
  obtain⟨ad,e,hb,hc⟩:=h.2 hn
  exact⟨ad,e,by omega,hc⟩⟩
theorem xi_.below (h:xi_ w B size A n xs)(hb:Below B w w'):xi_ w' B size A n xs:=h.keep fun _ hp=>hb.cell hp
theorem xi_.drew (h:xi_ w B size A n xs):xi_ w.drew B size A n xs:=h
theorem xi_.alloc (h:xi_ w B size A n xs)(hB:B≤w.heap.size)(o:Obj):xi_ (w.alloc o) B size A n xs:=h.keep fun p hp=>World.cell?_alloc_lt w o p (by omega)
theorem xi_.setCell (h:xi_ w B size A n xs){p:Addr}(hB:B≤p.block)(u:Value):xi_ (w.setCell p u) B size A n xs:=
 h.keep fun q hq=>World.cell?_setCell_other w p q u (fun e=>by subst e;omega)
theorem xi_.grown (h:xi_ w B size A n xs){row:Option Nat}(hg:w.grownBy w' row)(hB:B≤w.heap.size)(hr:∀g,row=some g→B≤g):xi_ w' B size A n xs:=
 h.keep fun p hp=>World.cell?_of_block (hg.block p.block (by omega) (fun e=>by have:=hr _ e.symm;omega))
end
def Blk (w:World)(g:Nat)(t:TypeId)(cs:Array Value):Prop:=w.heap[g]? = some (.cells cs t (0,0))
section
variable {w w':World} {g:Nat} {t:TypeId} {cs:Array Value}
theorem Blk.lt (h:Blk w g t cs):g < w.heap.size:=by
 rcases Nat.lt_or_ge g w.heap.size with hlt|hge
 ·exact hlt
 ·unfold Blk at h;rw[Array.getElem?_eq_none hge]at h;cases h
theorem Blk.cell (h:Blk w g t cs)(i:Nat):w.cell? ⟨g,i,none⟩=cs[i]? := cell_of_row w g i cs t (0,0) h
theorem Blk.frozen (h:Blk w g t cs)(i:Nat):w.frozen? ⟨g,i,none⟩=false:=by
 unfold Blk at h
 simp[World.frozen?,h]
theorem Blk.new (w:World)(t:TypeId)(cs:Array Value):Blk (w.alloc (.cells cs t)) w.heap.size t cs:=heap_alloc_new w _
theorem Blk.drew (h:Blk w g t cs):Blk w.drew g t cs:=h
theorem Blk.alloc (h:Blk w g t cs)(o:Obj):Blk (w.alloc o) g t cs:=(Below.heap_alloc w o g h.lt).trans h
theorem Blk.far (h:Blk w g t cs){p:Addr}(hp:g≠p.block)(u:Value):Blk (w.setCell p u) g t cs:=(Below.heap_setCell w p u g hp).trans h
theorem Blk.below {B:Nat}(h:Blk w g t cs)(hb:Below B w w')(hg:g < B):Blk w' g t cs:=(hb.block g hg).trans h
theorem Blk.grown {row:Option Nat}(h:Blk w g t cs)(hb:w.grownBy w' row)(hg:some g≠row):Blk w' g t cs:=(hb.block g h.lt hg).trans h
end
section
variable {P:Program} (w:World)
theorem run_append_of_nil (base:Nat)(t ty e:TypeId)(i:TypeInfo)(size:Nat)(ht:P.underlying t=some (.slice e))(hi:P.info? e=some i)
  (v:Value) (n:Nat) (xs:List Value) (hown:w.ownsRow base e size v n xs) (c:Nat):(Builtin.append_ #[t,t] ty #[v,.slice none 0 c]).run P w=.ok v w:=by
 rcases hown.2 with ⟨rfl,rfl⟩|⟨g,cap,cur,rfl,_,_,hnc,_⟩
 ·simp[Builtin.append_,run_underlying ht,sizeOf,typeInfo,hi,Builtin.lenOf,Builtin.firstCells]
 ·simp[Builtin.append_,run_underlying ht,sizeOf,typeInfo,hi,Builtin.lenOf,Builtin.firstCells,hnc,storeCells]
theorem run_append_any (base:Nat)(t ty e:TypeId)(i:TypeInfo)(z:Value)(size bytes:Nat)(ht:P.underlying t=some (.slice e))(hi:P.info? e=some i)(hz:i.zero=some z)
  (hsize:i.size=size) (hby:i.bytes=bytes) (hzs:z.cells.size=size) (hsz:0 < size)
  (v:Value) (n:Nat) (xs:List Value) (hown:w.ownsRow base e size v n xs)
  (B:Nat) (A:Option Addr) (m c:Nat) (news:List Value) (hr:xi_ w B size A m news) (h1:∀u∈news,u.oneCell'=true)
  (h63:n+m≤maxLen) (hbytes:(n+m)*bytes≤140737488355328) (hbase:base≤w.heap.size) :
  ∃v' w',(Builtin.append_ #[t,t] ty #[v,.slice A m c]).run P w=.ok v' w'∧w'.ownsRow base e size v' (n+m) (xs++news)∧w.grownBy w' v.ownBlock ∧
   (v'.ownBlock=v.ownBlock∨v'.ownBlock=some w.heap.size):=by
 rcases A with _|ad
 ·have hm:m=0:=by
   rcases Nat.eq_zero_or_pos m with h0|h0
   ·exact h0
   ·obtain⟨ad,h,_⟩:=hr.2 h0
    cases h
  subst hm
  have hn:news=[]:=List.eq_nil_of_length_eq_zero (by simpa using hr.1)
  subst hn
  exact⟨v,w,run_append_of_nil w base t ty e i size ht hi v n xs hown c,by simpa using hown,World.grownBy.refl w _,.inl rfl⟩
 ·have hcells:∀j u,news[j]? = some u→w.cell? (ad.add j)=some u:=by
   intro j u hu
   rcases Nat.eq_zero_or_pos m with h0|h0
   ·subst h0
    have hn:news=[]:=List.eq_nil_of_length_eq_zero (by simpa using hr.1)
    subst hn
    simp at hu
   ·obtain⟨ad',h,_,hc⟩:=hr.2 h0
    injection h with h
    subst h
    exact hc j u hu
  obtain⟨v',w',hrun,h2,h3,_,h5⟩:=run_append_own_at (P:=P) w base t ty e i z size bytes ht hi hz hsize hby hzs hsz v n xs hown ad m c news hr.1 hcells h1 h63 hbytes hbase
  exact⟨v',w',hrun,h2,h3,h5⟩
theorem wp_append_any {o:Oper}{a:Act}{K:Act→World→Prop}{Q:Exit→Act→World→Prop}(s x:Operand)(t:TypeId)
  (ho:o.op=.call { callee:=.builtin .append,args:=#[s,x],argTypes:=#[t,t] })
  (base:Nat) (e:TypeId) (i:TypeInfo) (z:Value) (size bytes:Nat) (ht:P.underlying t=some (.slice e)) (hi:P.info? e=some i) (hz:i.zero=some z)
  (hsize:i.size=size) (hby:i.bytes=bytes) (hzs:z.cells.size=size) (hsz:0 < size)
  (v:Value) (n:Nat) (xs:List Value) (hs:a.eval s=v) (hown:w.ownsRow base e size v n xs)
  (B:Nat) (A:Option Addr) (m c:Nat) (news:List Value) (hx:a.eval x=.slice A m c) (hr:xi_ w B size A m news) (h1:∀u∈news,u.oneCell'=true)
  (h63:n+m≤maxLen) (hbytes:(n+m)*bytes≤140737488355328) (hbase:base≤w.heap.size)
  (h:∀v' w',w'.ownsRow base e size v' (n+m) (xs++news)→w.grownBy w' v.ownBlock→(v'.ownBlock=v.ownBlock∨v'.ownBlock=some w.heap.size)→K (a.put o.dst v') w'):o.wp P a w K Q:=by
 obtain⟨v',w',hrun,h2,h3,h4⟩:=run_append_any (P:=P) w base t o.type e i z size bytes ht hi hz hsize hby hzs hsz v n xs hown B A m c news hr h1 h63 hbytes hbase
 unfold Oper.wp execOp
 simp only[ho,resolve,invoke,builtin,Sem.run_bind,Sem.run_pure,Result.andThen_ok,List.map_toArray,List.map_cons,List.map_nil,hs,hx,hrun]
 exact h v' w' h2 h3 h4
theorem wpList_append_any {ops:Array Oper}{rest:List Oper}{o:Oper}{a:Act}{Q:Exit→Act→World→Prop}(hgd:o.guard=none)(s x:Operand)(t:TypeId)
  (ho:o.op=.call { callee:=.builtin .append,args:=#[s,x],argTypes:=#[t,t] })
  (base:Nat) (e:TypeId) (i:TypeInfo) (z:Value) (size bytes:Nat) (ht:P.underlying t=some (.slice e)) (hi:P.info? e=some i) (hz:i.zero=some z)
  (hsize:i.size=size) (hby:i.bytes=bytes) (hzs:z.cells.size=size) (hsz:0 < size)
  (v:Value) (n:Nat) (xs:List Value) (hs:a.eval s=v) (hown:w.ownsRow base e size v n xs)
  (B:Nat) (A:Option Addr) (m c:Nat) (news:List Value) (hx:a.eval x=.slice A m c) (hr:xi_ w B size A m news) (h1:∀u∈news,u.oneCell'=true)
  (h63:n+m≤maxLen) (hbytes:(n+m)*bytes≤140737488355328) (hbase:base≤w.heap.size)
  (h:∀v' w',w'.ownsRow base e size v' (n+m) (xs++news)→w.grownBy w' v.ownBlock→(v'.ownBlock=v.ownBlock∨v'.ownBlock=some w.heap.size)→wpList P ops Q rest (a.put o.dst v') w'):wpList P ops Q (o::rest) a w:=
 wpList_plain hgd fun _ hK=>wp_append_any w s x t ho base e i z size bytes ht hi hz hsize hby hzs hsz v n xs hs hown B A m c news hx hr h1 h63 hbytes hbase fun v' w' h2 h3 h4=>hK _ _ (h v' w' h2 h3 h4)
end
theorem eql_nil {P:Program}(w:World)(t e:TypeId)(a:Option Addr)(n c:Nat)(h:P.underlying t=some (.slice e)):(binOp .eql t (.slice a n c) (.slice none 0 0)).run P w=.ok (.bool a.isNone) w:=by
 simp only[binOp]
 simp[Op.equal,Op.maxDepth,Lib.run_equalIn_slice_nil w 9999 t e a n c 0 0 h]
end Go.Proofs.Ytmljmabbopkpiaa
end
section
namespace Go.Proofs.Ytmljmabbopkpiaa
open Go.RowKit
theorem flat_at {α : Type}(f:α→List Value)(k:Nat)(hf:∀x,(f x).length=k):∀(l:List α) (i j:Nat) (x:α),l[i]? = some x→j < k→(l.flatMap f)[i*k+j]? =(f x)[j]? := by
 intro l
 induction l with
 | nil=>intro i j x h;simp at h
 | cons y l ih=>
  intro i j x h hj
  rw[List.flatMap_cons]
  cases i with
  | zero=>
   simp at h;subst h
   rw[List.getElem?_append_left (by rw[hf];omega)]
   simp
  | succ i=>
   rw[List.getElem?_append_right (by rw[hf,Nat.succ_mul];omega),hf,show (i+1)*k+j - k=i*k+j by rw[Nat.succ_mul];omega]
   exact ih i j x (by simpa using h) hj
theorem flat_len {α : Type}(f:α→List Value)(k:Nat)(hf:∀x,(f x).length=k)(l:List α):(l.flatMap f).length=l.length*k:=by
 induction l with
 | nil=>simp
 | cons y l ih=>rw[List.flatMap_cons,List.length_append,hf,ih,List.length_cons,Nat.succ_mul];omega
theorem xi_.form {w:World}{B k n:Nat}{A:Option Addr}{xs:List Value}(h:xi_ w B k A n xs)(hn:0 < n)(hk:0 < k):∃b off,A=some ⟨b,off,none⟩∧b < B∧∀j u,xs[j]? = some u→w.cell? ⟨b,off+j,none⟩=some u:=by
 obtain⟨ad,rfl,hb,hc⟩:=h.2 hn
 have hl:0 < xs.length:=by rw[h.1];exact Nat.mul_pos hn hk
 have h0:=hc 0 _ (List.getElem?_eq_getElem hl)
 obtain⟨b,off,sp⟩:=ad
 have hs:sp=none:=by
  cases sp with
  | none=>rfl
  | some q=>simp[Addr.add,World.cell?]at h0;split at h0<;>simp at h0
 subst hs
 refine⟨b,off,rfl,hb,fun j u hu=>?_⟩
 rw[←hc j u hu,Addr.add_lit]
def int64s (xs:List Int):List Value:=xs.map (Value.int .i64)
structure Snd where
 port:Int
 delay:Int
 value:Int
deriving DecidableEq
def Snd.cells (s:Snd):List Value:=[.int .i64 s.port,.int .i64 s.delay,.int .i64 s.value]
def Snd.v (s:Snd):Value:=.agg #[.int .i64 s.port,.int .i64 s.delay,.int .i64 s.value]
def insV (l:List Ins):List Value:=l.flatMap Ins.cells
theorem insV_len (l:List Ins):(insV l).length=l.length*5:=flat_len Ins.cells 5 (fun _=>rfl) l
theorem xi_.ins_len {w:World}{B n:Nat}{A:Option Addr}{l:List Ins}(h:xi_ w B 5 A n (insV l)):l.length=n:=by have:=h.1;rw[insV_len]at this;omega
theorem xi_.ins_at {w:World}{B n:Nat}{A:Option Addr}{l:List Ins}{k:Nat}(h:xi_ w B 5 A n (insV l))(hk:k < n):∃b off s,A=some ⟨b,off,none⟩∧b < B∧l[k]? = some s ∧
  w.cell? ⟨b,off+k*5,none⟩=some (.int .u8 s.op)∧w.cell? ⟨b,off+k*5+1,none⟩=some (.int .u8 s.a)∧w.cell? ⟨b,off+k*5+2,none⟩=some (.int .u8 s.b)∧w.cell? ⟨b,off+k*5+3,none⟩=some (.int .u8 s.c)∧w.cell? ⟨b,off+k*5+4,none⟩=some (.int .i64 s.n):=by
 obtain⟨b,off,rfl,hb,hc⟩:=h.form (by omega) (by omega)
 have hl:k < l.length:=by rw[h.ins_len];exact hk
 have hx:=List.getElem?_eq_getElem hl
 exact ⟨b,off,l[k],rfl,hb,hx,hc (k*5+0) _ (flat_at Ins.cells 5 (fun _=>rfl) l k 0 _ hx (by omega)),
  hc (k*5+1) _ (flat_at Ins.cells 5 (fun _=>rfl) l k 1 _ hx (by omega)),hc (k*5+2) _ (flat_at Ins.cells 5 (fun _=>rfl) l k 2 _ hx (by omega)),
  hc (k*5+3) _ (flat_at Ins.cells 5 (fun _=>rfl) l k 3 _ hx (by omega)),hc (k*5+4) _ (flat_at Ins.cells 5 (fun _=>rfl) l k 4 _ hx (by omega))⟩
end Go.Proofs.Ytmljmabbopkpiaa
end
section
namespace Go.Proofs.Ytmljmabbopkpiaa.Vm
open Go.RowKit
def iOf:SV→Int
 | .int _ n=>n
 | .nat _ n=>(n:Int)
 | _=>0
def isI (k:IntKind):SV→Bool
 | .int k' _=>keq k k'
 | .nat k' _=>keq k k'
 | _=>false
theorem zo_ {k:IntKind}{v:SV}{β : Env}(h:isI k v=true):v.den β = .int k (iOf v):=by
 cases v<;>first |(cases h;done) |(have:=keq_eq h;subst this;rfl)
theorem isI_cl {k:IntKind}{v:SV}{β : Env}(h:isI k v=true):v.cl β = [.int k (iOf v)]:=by
 unfold SV.cl;rw[zo_ h];rfl
def zd_:SV→Ins
 | .agg [a,b,c,d,e]=>⟨iOf a,iOf b,iOf c,iOf d,iOf e⟩
 | _=>⟨0,0,0,0,0⟩
def xt_:SV→Bool
 | .agg [a,b,c,d,e]=>isI .u8 a && isI .u8 b && isI .u8 c && isI .u8 d && isI .i64 e
 | _=>false
theorem isIns_cl {v:SV}{β : Env}(h:xt_ v=true):v.cl β =(zd_ v).cells:=by
 unfold xt_ at h
 split at h
 ·rename_i a b c d e
  simp only[Bool.and_eq_true]at h
  obtain⟨⟨⟨⟨h1,h2⟩,h3⟩,h4⟩,h5⟩:=h
  rw[cl_agg]
  simp only[yk_,clL_nil,isI_cl h1,isI_cl h2,isI_cl h3,isI_cl h4,isI_cl h5,zd_,Ins.cells,List.cons_append,List.nil_append]
 ·cases h
def insS (i:Ins):SV:=.agg [.int .u8 i.op,.int .u8 i.a,.int .u8 i.b,.int .u8 i.c,.int .i64 i.n]
theorem yi_ (i:Ins):zd_ (insS i)=i:=rfl
theorem yo_ (i:Ins):xt_ (insS i)=true:=rfl
theorem insS_size (i:Ins):(insS i).size=5:=rfl
def sndOf:SV→Snd
 | .agg [a,b,c]=>⟨iOf a,iOf b,iOf c⟩
 | _=>⟨0,0,0⟩
def isSnd:SV→Bool
 | .agg [a,b,c]=>isI .i64 a && isI .i64 b && isI .i64 c
 | _=>false
def sndS (s:Snd):SV:=.agg [.int .i64 s.port,.int .i64 s.delay,.int .i64 s.value]
theorem yq_ (s:Snd):sndOf (sndS s)=s:=rfl
theorem yv_ (s:Snd):isSnd (sndS s)=true:=rfl
def ls {α : Type}(g:SV→α)(n:Nat)(f:Nat→SV):List α:=(List.range n).map fun q=>g (f q)
theorem zc_ {α : Type}(g:SV→α)(n:Nat)(f:Nat→SV):(ls g n f).length=n:=by simp[ls]
theorem ls_of {α : Type}{g:SV→α}{e:α→SV}(hg:∀x,g (e x)=x)(l:List α)(d:α):ls g l.length (fun q=>e (l.getD q d))=l:=by
 unfold ls
 apply List.ext_getElem
 ·simp
 ·intro i h1 h2
  simp[hg,h2]
section
variable {P:Program} {w0 w:World} {M:Nat→Prop} {β : Env} {h h':HM}
theorem elems_ls {α : Type}{g:SV→α}{cells:α→List Value}{ok:SV→Bool}(hok:∀{v:SV},ok v=true→v.cl β = cells (g v)){k:Nat}(hk:∀x,(cells x).length=k){n:Nat}{f:Nat→SV}(hf:∀q,q < n→ok (f q)=true):zx_ β k n f=(ls g n f).flatMap cells:=by
 unfold zx_ ls
 rw[List.flatMap_map,List.flatMap_def,List.flatMap_def]
 congr 1
 exact List.map_congr_left fun q hq=>by rw[hok (hf q (List.mem_range.1 hq)),fit_eq (hk _)]
theorem elems_ins {n:Nat}{f:Nat→SV}(hf:∀q,q < n→xt_ (f q)=true):zx_ β 5 n f=insV (ls zd_ n f):=elems_ls isIns_cl (fun _=>rfl) hf
theorem elems_i64 {n:Nat}{f:Nat→SV}(hf:∀q,q < n→isI .i64 (f q)=true):zx_ β 1 n f=int64s (ls iOf n f):=by
 rw[elems_ls (cells:=fun x=>[.int .i64 x]) isI_cl (fun _=>rfl) hf]
 unfold int64s
 rw[List.flatMap_def]
 induction ls iOf n f with
 | nil=>rfl
 | cons x l ih=>simp[ih]
theorem Rep.below (R:Rep w0 M β h w){w':World}(hb:Below w.heap.size w w'):Rep w0 M β h w':=R.keep hb.os hb.tape hb.output hb.size hb.block
theorem Rep.made (R:Rep w0 M β h w){B:Nat}{m k t n:Nat}{v:Value}{xs:List Value}{f:Nat→SV}(hm:h m=.dead)(ho:w.ownsRow B t k v n xs)(hB:w0.heap.size≤B)(hx:zx_ β k n f=xs)(hf:∀q,zb_ h (f q))
  (hd:∀g i a',v.ownBlock=some g→(h i).mine=true→(β i).1=some a'→a'.block≠g) :
  ∃e,Rep w0 M (setE β m e) (upd h m (.own t (.arr n k f) false)) w∧v=(SV.sl m m [] k 0 n none).den (setE β m e):=by
 obtain⟨hl,⟨rfl,rfl⟩|⟨g,cap,cur,rfl,hb,hg,hn,hc,hs,ht⟩⟩:=ho
 ·exact⟨(none,0),nothing R hm hf,by simp[SV.den,z4_]⟩
 ·refine⟨(some ⟨g,0,none⟩,cap),R.birth m hm _ _ (by simp only[HB.stable,zb_];exact fun q=>zb_.upd (hf q) rfl) rfl (.inl ⟨g,[],cur,by rw[z4_];rfl,hg,⟨cur.toList.drop (n*k),?_,fun h=>by cases h⟩,fun n' k' f' hv=>?_⟩) (fun a _ ha=>?_) (fun v a hv=>by cases hv),(sl_new hn).symm⟩
  ·have hst:zb_ h (.arr n k f):=by simp only[zb_];exact hf
   rw[List.nil_append,←hst.cl (yd_ hm),cl_arr',hx,←ht]
   exact(List.take_append_drop _ _).symm
  ·injection hv with h1 h2 _
   subst h1 h2
   rw[z4_]
   exact⟨hn,by rw[List.length_nil,Nat.zero_add];exact Nat.le_of_eq hs.symm⟩
  ·injection ha with ha
   subst ha
   exact⟨.inl (Nat.le_trans hB hb),(Array.getElem?_eq_some_iff.1 hg).1,fun i a' hi hai=>hd g i a' rfl hi hai⟩
end
end Go.Proofs.Ytmljmabbopkpiaa.Vm
end
section
namespace Go.Proofs.Ytmljmabbopkpiaa.Vm
open Go.RowKit
def FR (ro:Option Nat):Fence:={ Fence.wide with round:=ro }
theorem callsIn_FR {ro:Option Nat}{n:Nat}{P:Program}{f:FuncId}{args:Array Value}{w:World}{R:Ending→World→Prop}(h:Calls P f args w R):CallsIn (FR ro) n P f args w R:=by
 have h1:CallsIn Fence.wide n P f args w R:=callsIn_wide.2 h
 exact h1
theorem stepsIn_FR {ro:Option Nat}{P:Program}{m m':Machine}(h:Steps P m m'):StepsIn (Machine.fenced P (FR ro)) P m m':=by
 have h1:StepsIn (Machine.fenced P Fence.wide) P m m':=stepsIn_wide.2 h
 exact h1
theorem rowsIn_FR {ro:Option Nat}{n:Nat}{P:Program}{row:String}{args:Array Value}{w:World}{R:Value→World→Prop}(h:Rows P row args w R):RowsIn (FR ro) n P row args w R:=
 fun c cs _=>by
  obtain⟨v,w',h1,h2⟩:=h c cs
  exact⟨v,w',h1,stepsIn_FR h2⟩
def noDefer (ops:List Oper):Bool:=ops.all fun o=>match o.op with | .defer _=>false|_=>true
theorem noDefer_spec {ops:List Oper}(h:noDefer ops=true):∀o∈ops,∀c,o.op≠.defer c:=fun o ho c e=>by
 simp only[noDefer,List.all_eq_true]at h
 have:=h o ho
 rw[e]at this
 cases this
section
variable {P:Program} {ro:Option Nat} {n:Nat} {Q:Exit→Act→World→Prop} {K K':Act→World→Prop} {o:Oper} {a:Act} {w:World}
theorem upon_in {r:Result Next}(hq:¬LetsOut Q)(hk:∀a w,K a w→K' a w)(h:o.upon P a K Q r):o.uponIn (FR ro) n P a K' Q r:=by
 have nd:((FR ro).depth.isSome=true→1≤n):=fun h=>by cases h
 cases r with
 | ok x w'=>
  cases x with
  | value v=>exact hk _ _ h
  | skip=>exact hk _ _ h
  | defer d=>exact hk _ _ h
  | enter f args=>
   refine⟨nd,(callsIn_FR h).mono fun e w'' he=>?_⟩
   cases e with
   | returned v=>exact hk _ _ he
   | panicked c=>exact he
   | outgrown=>exact he
  | row row args=>exact⟨nd,(rowsIn_FR h).mono fun v w'' he=>hk _ _ he⟩
  | _=>exact h.elim
 | halt x w'=>
  cases x with
  | panic v=>exact h
  | _=>exact h.elim
theorem wpOps_in {ops:Array Oper}(hd:noDefer ops.toList=true)(hq:¬LetsOut Q):∀{is:List Nat} {a:Act} {w:World},wpOps P ops Q is a w→wpOpsIn (FR ro) n P ops Q is a w:=by
 intro is
 induction is with
 | nil=>exact fun h=>h
 | cons i rest ih=>
  intro a w h
  simp only[wpOps]at h
  simp only[wpOpsIn]
  cases ho:ops[i]? with
  | none=>simp only[ho]at h ⊢;exact ih h
  | some o=>
   simp only[ho]at h ⊢
   by_cases hw:Region.wanted o (yielded ops a.tmps)=true
   ·simp only[hw,if_true]at h ⊢
    rcases h with h|⟨_,h⟩
    ·refine⟨fun _ _=>trivial,?_⟩
     have hs:=Oper.semAt_eq (FR ro).round a.eval o (noDefer_spec hd o (by rw[←Array.getElem?_toList]at ho;exact List.mem_of_getElem? ho))
     rw[hs]
     exact upon_in hq (fun a w=>ih) h
    ·exact absurd h hq
   ·simp only[hw,if_false,Bool.false_eq_true]at h ⊢
    exact⟨fun _ _=>trivial,ih h⟩
end
def WF (ro:Option Nat)(n:Nat)(P:Program)(c:Code)(w0:World)(M:Nat→Prop)(E:Env)(n0 N:Nat)(D:List Deferred)(φ : Fr)(L:List HB)(Q:Exit→Act→World→Prop):Prop:=∀a w,St w0 M E n0 N D φ L a w→c.wpIn (FR ro) n P Q a w
section
variable {P:Program} {T:Tab} {C:FuncId→Option y4_} {w0:World} {M:Nat→Prop} {E:Env} {n0 N n:Nat} {D:List Deferred} {φ φ2 φ':Fr} {L L2 L':List HB} {Q:Exit→Act→World→Prop} {ro:Option Nat}
theorem WF.seq {x y:Code}(h:WF ro n P x w0 M E n0 N D φ L (Exit.then (y.wpIn (FR ro) n P Q) Q)):WF ro n P (.seq x y) w0 M E n0 N D φ L Q:=fun a w hS=>wpIn_seq (h a w hS)
theorem WF.skip (h:At w0 M E n0 N D φ L (Q .normal)):WF ro n P .skip w0 M E n0 N D φ L Q:=fun a w hS=>wpIn_skip (h a w hS)
theorem WF.exit {id:Nat}(h:At w0 M E n0 N D φ L (Q (.exit id))):WF ro n P (.exit id) w0 M E n0 N D φ L Q:=fun a w hS=>wpIn_exit (h a w hS)
theorem WF.goto {id:Nat}(h:At w0 M E n0 N D φ L (Q (.goto id))):WF ro n P (.goto id) w0 M E n0 N D φ L Q:=fun a w hS=>wpIn_goto (h a w hS)
theorem WF.label {id:Nat}(h:At w0 M E n0 N D φ L (Q .normal)):WF ro n P (.label id) w0 M E n0 N D φ L Q:=fun a w hS=>wpIn_label (h a w hS)
theorem WF.ret (h:At w0 M E n0 N D φ L (Q .ret)):WF ro n P .ret w0 M E n0 N D φ L Q:=fun a w hS=>wpIn_ret (h a w hS)
theorem WF.block {id:Nat}{c:Code}(h:WF ro n P c w0 M E n0 N D φ L (Exit.inBlock id Q)):WF ro n P (.block id c) w0 M E n0 N D φ L Q:=fun a w hS=>wpIn_block (h a w hS)
theorem WF.cond {x:Operand}{c d:Code}{p:Prop}{b:Bool}(he:ev φ x=some (p,.bool b))(hp:p)(ht:b=true→WF ro n P c w0 M E n0 N D φ L Q)(hf:b=false→WF ro n P d w0 M E n0 N D φ L Q):WF ro n P (.cond x c d) w0 M E n0 N D φ L Q:=fun a w hS=>by
 obtain⟨⟨β,hE,R,F⟩,_⟩:=id hS
 have h2:=(ev_spec F R.nil R.nil0 he hp).2
 exact wpIn_cond_split h2 (fun h=>ht h a w hS) (fun h=>hf h a w hS)
theorem WF.sub {c:Code}(hφ : SubF φ φ2)(hL:LessL L L2)(h0:hp L2 0=.gone)(hs:x2_ (hp L2) L2)(hf:xe_ (hp L2) φ2)(hb:bornTo n0 L2=true)(h:WF ro n P c w0 M E n0 N D φ2 L2 Q):WF ro n P c w0 M E n0 N D φ L Q:=
 fun a w hS=>h a w (hS.sub hφ hL h0 hs hf hb)
def NormSt (w0:World)(M:Nat→Prop)(E:Env)(n0 N:Nat)(D:List Deferred)(φ : Fr)(L:List HB):Exit→Act→World→Prop
 | .normal,a,w=>St w0 M E n0 N D φ L a w
 | _,_,_=>False
theorem normSt_out:¬LetsOut (NormSt w0 M E n0 N D φ L):=fun⟨_,_,h⟩=>h
theorem WF.region (hC:∀f S,C f=some S→zm_ P f S)(hT:TabOk P T){id:Nat}{ops:Array Oper}{c:Prop}{rs:List Rc}(hd:noDefer ops.toList=true)(hr:runR T C N ops.toList φ L ops.toList=some (c,rs,φ',L'))(hc:c)(h:At w0 M E n0 N D φ' L' (Q .normal)):WF ro n P (.region id ops false) w0 M E n0 N D φ L Q:=
 fun a w hS=>by
  have h1:=wpOps_run (Q:=NormSt w0 M E n0 N D φ' L') (k:=0) hC hT rfl hr hc hS (fun a w h=>h)
  rw[Array.length_toList]at h1
  refine wpIn_mono (wpIn_region (by rw[List.range_eq_range'];exact wpOps_in hd normSt_out h1)) fun e a w he=>?_
  cases e<;>first|exact he.elim|exact h a w he
theorem wpOps_of_drawn (hm:P.follows .mixedOrders=true)(hC:∀f S,C f=some S→zm_ P f S)(hT:TabOk P T){ops:Array Oper}{c:Prop}{rs:List Rc}(hr:runR T C N ops.toList φ L ops.toList=some (c,rs,φ',L'))(hok:regionOk ops.toList rs=true)(hc:c){a:Act}{w:World}
  (hS:St w0 M E n0 N D φ L a w) (hQ:∀a w,St w0 M E n0 N D φ' L' a w→Q .normal a w) (t:Nat):wpOps P ops Q (Region.schedule (P.follows .mixedOrders) ops t) a { w with drawn:=w.drawn+1 }:=by
 simp only[Region.schedule,hm,Bool.true_or,if_true]
 exact wpAny_sound ops.size t _ a _ (wpAny_drawn hm hC hT hr hok hc hS hQ)
theorem WF.drawn (hm:P.follows .mixedOrders=true)(hC:∀f S,C f=some S→zm_ P f S)(hT:TabOk P T){id:Nat}{ops:Array Oper}{c:Prop}{rs:List Rc}(hd:noDefer ops.toList=true)(hr:runR T C N ops.toList φ L ops.toList=some (c,rs,φ',L'))(hok:regionOk ops.toList rs=true)(hc:c)(h:At w0 M E n0 N D φ' L' (Q .normal)):WF ro n P (.region id ops true) w0 M E n0 N D φ L Q:=
 fun a w hS=>by
  refine wpIn_mono (wpIn_region_draw fun t=>wpOps_in hd normSt_out (wpOps_of_drawn (Q:=NormSt w0 M E n0 N D φ' L') hm hC hT hr hok hc hS (fun a w h=>h) t)) fun e a w he=>?_
  cases e<;>first|exact he.elim|exact h a w he
end
end Go.Proofs.Ytmljmabbopkpiaa.Vm
end
section
namespace Go.Proofs.Ytmljmabbopkpiaa.Vm
open Go.RowKit
def mrk (r:Nat):Deferred:={ target:=.collected r,args:=#[] }
def mineSet (β : Env)(h:HM)(g:Nat):Prop:=∃i a,(h i).mine=true∧(β i).1=some a∧a.block=g
section
variable {w0 w1 w2 w:World} {M M1 M2:Nat→Prop} {β : Env} {h:HM} {D D1 D2:List Deferred}
theorem Rep.free (R:Rep w0 M β h w){g:Nat}{o:Obj}(hg:w0.heap.size≤g)(hm:¬mineSet β h g):Rep w0 M β h (w.putObj g o):=
 {os:=R.os,tape:=R.tape,output:=R.output,size:=by rw[World.putObj_size];exact R.size
  frame:=fun k hk hmk=>(World.putObj_heap_other (by omega)).trans (R.frame k hk hmk)
  nil:=R.nil,nil0:=R.nil0,st:=R.st
  blk := fun i => holds_world (R.blk i) fun a ha hk => World.putObj_heap_other (by
   rcases hk with hk|⟨v,hv,hz⟩
   ·exact fun e=>hm ⟨i,a,hk,ha,e⟩
   ·have:=(R.ro i v a hv ha hz).1;omega)
  own:=R.own,ro:=R.ro,dist:=R.dist
  lt:=fun i a hmi ha=>by rw[World.putObj_size];exact R.lt i a hmi ha }
theorem Rep.rawPut (R:Rep w0 M β h w){i g:Nat}{o o':Obj}(hi:h i=.raw o)(hb:(β i).1=some ⟨g,0,none⟩):Rep w0 M β (upd h i (.raw o')) (w.putObj g o'):=by
 have hmi:(h i).mine=true:=by rw[hi];rfl
 have hglt:g < w.heap.size:=R.lt i _ hmi hb
 have mine:∀j,(upd h i (.raw o') j).mine=true→(h j).mine=true:=fun j hj=>by
  unfold upd at hj;split at hj
  ·rename_i e;rw[e];exact hmi
  ·exact hj
 have born:∀j,(h j).born=true→(upd h i (.raw o') j).born=true:=fun j hj=>by
  unfold upd;split
  ·rfl
  ·exact hj
 have hi0:(0:Nat)≠i:=by rintro rfl;rw[R.nil0]at hi;cases hi
 refine { os:=R.os,tape:=R.tape,output:=R.output,size:=by rw[World.putObj_size];exact R.size,frame:=?_,nil:=R.nil,nil0:=by rw[yp_ hi0];exact R.nil0,st:=?_,blk:=?_,own:=fun j a hm ha=>R.own j a (mine j hm) ha,ro:=?_,dist:=fun j k aj ak hne hmj hmk=>R.dist j k aj ak hne (mine j hmj) (mine k hmk),lt:=fun j a hm ha=>by rw[World.putObj_size];exact R.lt j a (mine j hm) ha }
 ·intro k hk hmk
  have:k≠g:=by
   rintro rfl
   rcases R.own i _ hmi hb with h'|h'
   ·simp at h';omega
   ·exact hmk h'
  exact(World.putObj_heap_other this).trans (R.frame k hk hmk)
 ·intro j
  by_cases hj:j=i
  ·subst hj;rw[z1_];trivial
  ·exact k2_
 ·intro j
  by_cases hj:j=i
  ·subst hj;rw[z1_];exact⟨g,hb,World.putObj_heap_same hglt⟩
  ·rw[yp_ hj]
   refine holds_world (R.blk j) fun a ha hk=>World.putObj_heap_other ?_
   rcases hk with hk|⟨v,hv,hz⟩
   ·exact R.dist j i a _ hj hk hmi ha hb
   ·obtain⟨h1,h2⟩:=R.ro j v a hv ha hz
    rintro e
    rcases R.own i _ hmi hb with h'|h'
    ·simp at h';omega
    ·exact h2 (by rw[e];exact h')
 ·intro j v a hv ha hz
  by_cases hj:j=i
  ·subst hj;rw[z1_]at hv;cases hv
  ·rw[yp_ hj]at hv;exact R.ro j v a hv ha hz
theorem Rep.rawNew (R:Rep w0 M β h w){m:Nat}(hm:h m=.dead)(o:Obj):Rep w0 M (setE β m (some ⟨w.heap.size,0,none⟩,0)) (upd h m (.raw o)) (w.alloc o):=by
 have R1:Rep w0 M β h (w.alloc o):=R.keep rfl rfl rfl (by simp) fun g hg=>Below.heap_alloc _ _ g hg
 refine R1.birth m hm _ (.raw o) trivial rfl ⟨w.heap.size,by rw[z4_],World.alloc_heap_new w o⟩ (fun a _ ha=>?_) (fun v a hv=>by cases hv)
 injection ha with ha
 subst ha
 refine⟨.inl R.size,by simp,fun i a' hmi ha'=>?_⟩
 have:=R.lt i a' hmi ha'
 simp only
 omega
theorem Rep.rebase (R:Rep w0 M β h w):Rep w (mineSet β h) β h w:=
 {os:=rfl,tape:=rfl,output:=rfl,size:=Nat.le_refl _,frame:=fun _ _ _=>rfl,nil:=R.nil,nil0:=R.nil0,st:=R.st,blk:=R.blk
  own:=fun i a hm ha=>.inr ⟨i,a,hm,ha,rfl⟩
  ro:=fun i v a hv ha hz=>by
   obtain⟨h1,h2⟩:=R.ro i v a hv ha hz
   refine⟨Nat.lt_of_lt_of_le h1 R.size,fun⟨j,a',hm,ha',e⟩=>?_⟩
   rcases R.own j a' hm ha' with h'|h'
   ·omega
   ·exact h2 (by rw[←e];exact h')
  dist:=R.dist,lt:=R.lt }
structure Anc (w0:World) (M:Nat→Prop) (D:List Deferred) (w1:World) (M1:Nat→Prop) (D1:List Deferred):Prop where
 os:w1.os=w0.os
 tape:w1.tape=w0.tape
 output:w1.output=w0.output
 size:w0.heap.size≤w1.heap.size
 frame:∀g,g < w0.heap.size→¬M g→w1.heap[g]? = w0.heap[g]?∧¬M1 g
 marks:∃rs:List Nat,D1=rs.map mrk++D∧rs.Nodup∧∀r∈rs,w0.heap.size≤r∧r < w1.heap.size∧¬M1 r∧w1.heap[r]? = some (.deferred (some []))
theorem Anc.refl:Anc w0 M D w0 M D:=⟨rfl,rfl,rfl,Nat.le_refl _,fun g _ hm=>⟨rfl,hm⟩,[],rfl,List.nodup_nil,fun _ h=>by cases h⟩
theorem Anc.trans (A:Anc w0 M D w1 M1 D1)(B:Anc w1 M1 D1 w2 M2 D2):Anc w0 M D w2 M2 D2:=by
 obtain⟨r1,d1,n1,k1⟩:=A.marks
 obtain⟨r2,d2,n2,k2⟩:=B.marks
 refine⟨B.os.trans A.os,B.tape.trans A.tape,B.output.trans A.output,Nat.le_trans A.size B.size,fun g hg hm=>?_,r2++r1,by rw[d2,d1,List.map_append,List.append_assoc],?_,fun r hr=>?_⟩
 ·obtain⟨h1,h2⟩:=A.frame g hg hm
  obtain⟨h3,h4⟩:=B.frame g (Nat.lt_of_lt_of_le hg A.size) h2
  exact⟨h3.trans h1,h4⟩
 ·refine List.nodup_append.2 ⟨n2,n1,fun a ha b hb e=>?_⟩
  subst e
  have:=(k2 a ha).1
  have:=(k1 a hb).2.1
  omega
 ·rcases List.mem_append.1 hr with hr|hr
  ·obtain⟨h1,h2,h3,h4⟩:=k2 r hr
   exact⟨Nat.le_trans A.size h1,h2,h3,h4⟩
  ·obtain⟨h1,h2,h3,h4⟩:=k1 r hr
   obtain⟨h5,h6⟩:=B.frame r h2 h3
   exact⟨h1,Nat.lt_of_lt_of_le h2 B.size,h6,h5.trans h4⟩
theorem Rep.anc (R : Rep w0 M β h w) : Anc w0 M D w (mineSet β h) D := ⟨R.os, R.tape, R.output, R.size, fun g hg hm => ⟨R.frame g hg hm,fun⟨i,a,h1,h2,e⟩=>by
 rcases R.own i a h1 h2 with h'|h'
 ·omega
 ·exact hm (by rw[←e];exact h')⟩,[],rfl,List.nodup_nil,fun _ h=>by cases h⟩
theorem Rep.ancMark (R:Rep w0 M β h w){r:Nat}(hr:w0.heap.size≤r)(hm:¬mineSet β h r)(hk:w.heap[r]? = some (.deferred (some []))):Anc w0 M D w (mineSet β h) (mrk r::D):=
 {R.anc (D := D) with marks := ⟨[r],rfl,by simp,fun q hq=>by
   obtain rfl:q=r:=by simpa using hq
   exact⟨hr,(Array.getElem?_eq_some_iff.1 hk).1,hm,hk⟩⟩ }
theorem Rep.back (R:Rep w1 M1 β h w)(A:Anc w0 M D w1 M1 D1)(hro:∀i v a,h i=.ro v→(β i).1=some a→0 < v.size→a.block < w0.heap.size∧¬M a.block):Rep w0 M β h w:=
 {os:=R.os.trans A.os,tape:=R.tape.trans A.tape,output:=R.output.trans A.output,size:=Nat.le_trans A.size R.size
  frame:=fun g hg hm=>by
   obtain⟨h1,h2⟩:=A.frame g hg hm
   exact(R.frame g (Nat.lt_of_lt_of_le hg A.size) h2).trans h1
  nil:=R.nil,nil0:=R.nil0,st:=R.st,blk:=R.blk
  own:=fun i a hm ha=>by
   rcases R.own i a hm ha with h'|h'
   ·exact .inl (Nat.le_trans A.size h')
   ·rcases Nat.lt_or_ge a.block w0.heap.size with hl|hl
    ·by_cases hM:M a.block
     ·exact .inr hM
     ·exact absurd h' (A.frame _ hl hM).2
    ·exact .inl hl
  ro:=hro,dist:=R.dist,lt:=R.lt }
end
def RoOk (w0:World)(M:Nat→Prop)(E:Env)(L:List HB):Prop:=∀i v a,hp L i=.ro v→(E i).1=some a→0 < v.size→a.block < w0.heap.size∧¬M a.block
def notRo:HB→Bool
 | .ro _=>false
 | _=>true
def RoSub:List HB→List HB→Prop
 | [],_=>True
 | x::l,[]=>notRo x=true∧RoSub l []
 | x::l,y::m=>(notRo x=true∨x=y)∧RoSub l m
theorem roSub_spec:∀{L L0:List HB},RoSub L L0→∀i v,hp L i=.ro v→hp L0 i=.ro v∧i < L0.length
 | [],_,_,i,v,h=>by unfold hp at h;simp at h
 | x::l,[],hs,i,v,h=>by
  cases i with
  | zero=>
   have h1:x=.ro v:=h
   rw[h1]at hs
   cases hs.1
  | succ i=>exact absurd (roSub_spec hs.2 i v h).2 (by simp)
 | x::l,y::m,hs,i,v,h=>by
  cases i with
  | zero=>
   have h1:x=.ro v:=h
   rcases hs.1 with h2|h2
   ·rw[h1]at h2;cases h2
   ·exact⟨by rw[h2]at h1;exact h1,by simp⟩
  | succ i=>
   obtain⟨h1,h2⟩:=roSub_spec hs.2 i v h
   exact⟨h1,by simp;omega⟩
section
variable {P:Program} {T:Tab} {w0 w1:World} {M M1:Nat→Prop} {E:Env} {n0 N n:Nat} {D D1:List Deferred} {φ : Fr} {L L2:List HB} {Q:Exit→Act→World→Prop} {ro:Option Nat}
theorem leaves_marks {fn:Func}{tmps:Array Value}{R:Ending→World→Prop}{β : Env}{h:HM}:∀(rs:List Nat) (w:World),Rep w0 M β h w→rs.Nodup→(∀r∈rs,w0.heap.size≤r∧¬mineSet β h r∧w.heap[r]? = some (.deferred (some []))) →
  (∀w',Rep w0 M β h w'→∃v,(results fn tmps).run P w'=.ok v w'∧R (.returned v) w')→LeavesInM (FR none) n P fn tmps R (rs.map mrk) .returning w
 | [],w,HR,_,_,hR=>hR w HR
 | r::rs,w,HR,hn,hk,hR=>by
  obtain⟨h1,h2,h3⟩:=hk r (.head _)
  obtain⟨hn1,hn2⟩:=List.nodup_cons.1 hn
  refine⟨by simp,.inl ⟨r,_,rfl,run_takeDeferred h3,leaves_marks rs _ (HR.free h1 h2) hn2 (fun q hq=>?_) hR⟩⟩
  obtain⟨k1,k2,k3⟩:=hk q (.tail _ hq)
  exact⟨k1,k2,(World.putObj_heap_other (fun e=>hn1 (by rw[←e];exact hq))).trans k3⟩
def EndsM (n:Nat)(P:Program)(fn:Func)(w0:World)(M:Nat→Prop)(E:Env)(n0:Nat)(v:SV)(L:List HB):Exit→Act→World→Prop:=
 bodyPostM (FR none) n P fn fun e w'=>∃β,(∀i,i < n0→β i=E i)∧Rep w0 M β (hp L) w'∧zb_ (hp L) v∧e=.returned (v.den β)
theorem At.endsM (hT:TabOk P T){fn:Func}{c:Prop}{vs:List SV}{v:SV}{rs:List ResultVar}{L0:List HB}(A:Anc w0 M [] w1 M1 D1)(hro:RoOk w0 M E L0)(hL0:L0.length≤n0)(hrs:fn.results.toList=rs)(hr:resV T φ (hp L) rs=some (c,vs))(hc:c)(hL:LessL L L2)(h0:hp L2 0=.gone)(hs:x2_ (hp L2) L2)(hsub:RoSub L L0)(hv:∀β,(resS vs).den β = v.den β)(hst:zb_ (hp L2) v) :
  At w1 M1 E n0 N D1 φ L (EndsM n P fn w0 M E n0 v L2 .ret):=fun a w hS=>by
 obtain⟨⟨β,hE,R,F⟩,hbn,_,hd⟩:=hS
 subst hrs
 have R0:Rep w0 M β (hp L) w:=R.back A fun i u a hi ha hz=>by
  obtain⟨h1,h2⟩:=roSub_spec hsub i u hi
  exact hro i u a h1 (by rw[←hE i (Nat.lt_of_lt_of_le h2 hL0)];exact ha) hz
 obtain⟨rs,d1,n1,k1⟩:=A.marks
 simp only[EndsM,bodyPostM,hd,d1,List.append_nil]
 refine leaves_marks (β:=β) (h:=hp L) rs w R0 n1 (fun r hr=>?_) (fun w' R'=>?_)
 ·exact d16_
 ·obtain⟨q1,q2⟩:=resV_ok ⟨hT,R',F⟩ hr hc
  exact⟨_,q2,β,hE,R'.less (lessL_spec hL) h0 (stableH_spec hs),hst,by rw[hv]⟩
theorem zf_ {f:FuncId}{fn:Func}{c:Code}{args:List SV}{L0 L1:List HB}{v:SV}(n0 N n:Nat)(hf:P.funcs[f]? = some fn)(hb:fn.body=some c)(hn0:L0.length=n0)(hN0:fn.ntmps=N)(hbn:bornTo L0.length L0=true)(hst:zh_ (hp L0) args)(hN:Nat.ble args.length fn.ntmps=true)
  (h:∀w0 M E,RoOk w0 M E L0→WF none n P c w0 M E n0 N [] (frameOf 0 args) L0 (EndsM n P fn w0 M E n0 v L1)):zz_ P f args L0 v L1:=by
 subst hn0 hN0
 intro w0 M β w R
 have key:=callsIn_of_wp_marks (F:=FR none) (n:=n) (args:=(denL β args).toArray) (w:=w) (R:=fun e w'=>∃β':Env,(∀i,i < L0.length→β' i = β i)∧Rep w0 M β' (hp L1) w'∧zb_ (hp L1) v∧e=.returned (v.den β')) hf hb trivial (h w0 M β (fun i v a hi ha hz=>R.ro i v a hi ha hz) _ w ⟨⟨β,fun _ _=>rfl,R,fun t u hu=>?_⟩,fun i hi=>?_,?_,rfl⟩) rfl
 ·have k2:CallsIn Fence.wide n P f (denL β args).toArray w _:=key
  exact(callsIn_wide.1 k2).mono fun e w' ⟨β',h1,h2,h3,h4⟩=>⟨β',fun i hi=>(h1 i hi).symm,h2,h3,h4⟩
 ·obtain⟨j,rfl,hj⟩:=look_frameOf hu
  rw[Nat.zero_add]
  refine⟨yx_.1 hst _ (List.mem_of_getElem? hj),?_⟩
  have:=denL_get (β:=β) hj
  have hlt:j < (denL β args).length:=by
   rcases Nat.lt_or_ge j (denL β args).length with h|h
   ·exact h
   ·rw[List.getElem?_eq_none h]at this;cases this
  rw[Array.getD_eq_getD_getElem?,Array.getElem?_append_left (by simpa using hlt)]
  simp[this]
 ·simp only[bornTo,List.all_eq_true]at hbn
  exact hbn i (List.mem_range.2 hi)
 ·have hlen:∀l:List SV,(denL β l).length=l.length:=fun l=>by induction l with
   | nil=>rfl
   | cons x l ih=>simp[denL,ih]
  have:=Nat.le_of_ble_eq_true hN
  simp[hlen]
  omega
open Classical in
theorem WF.loop {α : Type}(p:α→Prop)(φi:α→Fr)(Li:α→List HB)(μ : α→Nat){c:Code}(x0:α)(h0:p x0)
  (step:∀w1 M1 D1 x,Anc w0 M D w1 M1 D1→p x→WF ro n P c w1 M1 E n0 N D1 (φi x) (Li x) (Exit.then (fun a w=>∃w2 M2 D2 y,Anc w1 M1 D1 w2 M2 D2∧p y∧μ y < μ x∧St w2 M2 E n0 N D2 (φi y) (Li y) a w) Q)):WF ro n P (.loop c) w0 M E n0 N D (φi x0) (Li x0) Q:=by
 intro a w hS
 let I:Act→World→Prop:=fun a w=>∃x w1 M1 D1,Anc w0 M D w1 M1 D1∧p x∧St w1 M1 E n0 N D1 (φi x) (Li x) a w
 let pm:Act→World→Nat→Prop:=fun a w k=>∃x w1 M1 D1,Anc w0 M D w1 M1 D1∧p x∧St w1 M1 E n0 N D1 (φi x) (Li x) a w∧μ x=k
 have hex:∀a w,I a w→∃k,pm a w k:=fun a w ⟨x,w1,M1,D1,h1,h2,h3⟩=>⟨μ x,x,w1,M1,D1,h1,h2,h3,rfl⟩
 let m:Act→World→Nat:=fun a w=>if h:I a w then Classical.choose (least (hex a w h))else 0
 have hm:∀a w (h:I a w),pm a w (m a w)∧∀k,pm a w k→m a w≤k:=fun a w h=>by
  have:=Classical.choose_spec (least (hex a w h))
  simp only[m,h,dif_pos]
  exact this
 refine wpIn_loop I m ⟨x0,w0,M,D,Anc.refl,h0,hS⟩ fun a w hI=>?_
 obtain⟨⟨x,w1,M1,D1,hA,hx,hSx,hμ⟩,hmin⟩:=hm a w hI
 refine wpIn_mono (step w1 M1 D1 x hA hx a w hSx) fun e a' w' hq=>?_
 cases e<;>try exact hq
 obtain⟨w2,M2,D2,y,hB,hy,hlt,hSy⟩:=hq
 refine⟨⟨y,w2,M2,D2,hA.trans hB,hy,hSy⟩,?_⟩
 have:=(hm a' w' ⟨y,w2,M2,D2,hA.trans hB,hy,hSy⟩).2 (μ y) ⟨y,w2,M2,D2,hA.trans hB,hy,hSy,rfl⟩
 omega
end
end Go.Proofs.Ytmljmabbopkpiaa.Vm
end
section
namespace Go.Proofs.Ytmljmabbopkpiaa.Vm
open Go.RowKit
section
variable {F:Fence} {n:Nat} {P:Program} {ops:Array Oper} {Q Q':Exit→Act→World→Prop}
theorem uponIn_mono2 {o:Oper}{a:Act}{K K':Act→World→Prop}(hk:∀a w,K a w→K' a w)(hp:∀ch a w,Q (.panic ch) a w→Q' (.panic ch) a w)(ho:LetsOut Q→LetsOut Q'){r:Result Next}(h:o.uponIn F n P a K Q r):o.uponIn F n P a K' Q' r:=by
 cases r with
 | ok x w'=>
  cases x with
  | value v=>exact hk _ _ h
  | skip=>exact hk _ _ h
  | defer d=>exact hk _ _ h
  | enter f args=>
   refine⟨h.1,h.2.mono fun e w'' he=>?_⟩
   cases e with
   | returned v=>exact hk _ _ he
   | panicked c=>exact hp _ _ _ he
   | outgrown=>exact ho he
  | row row args=>exact⟨h.1,h.2.mono fun v w'' he=>hk _ _ he⟩
  | round l f tmps assign body=>
   refine⟨h.1,h.2.mono fun e w'' he=>?_⟩
   cases e with
   | returned v=>exact hk _ _ he
   | panicked c=>exact hp _ _ _ he
   | outgrown=>exact ho he
  | _=>exact h
 | halt x w'=>
  cases x with
  | panic v=>exact hp _ _ _ h
  | _=>exact h
theorem wpOpsIn_append {js:List Nat}:∀{is:List Nat} {a:Act} {w:World},wpOpsIn F n P ops (Exit.then (wpOpsIn F n P ops Q js) Q) is a w→wpOpsIn F n P ops Q (is++js) a w:=by
 intro is
 induction is with
 | nil=>exact fun h=>h
 | cons i is ih=>
  intro a w h
  simp only[List.cons_append,wpOpsIn]at h ⊢
  cases ho:ops[i]? with
  | none=>simp only[ho]at h ⊢;exact ih h
  | some o=>
   simp only[ho]at h ⊢
   by_cases hw:Region.wanted o (yielded ops a.tmps)=true
   ·simp only[hw,if_true]at h ⊢
    exact⟨h.1,uponIn_mono2 (fun a w=>ih) (fun ch a w h=>h) (fun h=>h) h.2⟩
   ·simp only[hw,if_false,Bool.false_eq_true]at h ⊢
    exact⟨h.1,ih h.2⟩
end
section
variable {P:Program} {T:Tab} {C:FuncId→Option y4_} {w0:World} {M:Nat→Prop} {E:Env} {n0 N n:Nat} {D:List Deferred} {φ φ2 φ':Fr} {L L2 L':List HB} {Q:Exit→Act→World→Prop} {ro:Option Nat}
theorem At.run (hC:∀f S,C f=some S→zm_ P f S)(hT:TabOk P T){ops:Array Oper}{k len:Nat}{l:List Oper}{rest:List Nat}{c:Prop}{rs:List Rc}(hd:noDefer ops.toList=true)(hl:(ops.toList.drop k).take len=l)(hlen:l.length=len)(hr:runR T C N ops.toList φ L l=some (c,rs,φ',L'))(hc:c)
  (h:At w0 M E n0 N D φ' L' (wpOpsIn (FR ro) n P ops Q rest)):At w0 M E n0 N D φ L (wpOpsIn (FR ro) n P ops Q (List.range' k len++rest)):=fun a w hS=>by
 have h0:ops.toList.drop k=l++(ops.toList.drop k).drop len:=by rw[←hl,List.take_append_drop]
 have h1:=wpOps_seg (Q:=NormSt w0 M E n0 N D φ' L') hC hT h0 hr hc hS (fun a w h=>h)
 have h2:=wpOps_in (ro:=ro) (n:=n) hd normSt_out h1
 rw[hlen]at h2
 refine wpOpsIn_append ?_
 have mono:∀{is:List Nat} {a:Act} {w:World},wpOpsIn (FR ro) n P ops (NormSt w0 M E n0 N D φ' L') is a w→wpOpsIn (FR ro) n P ops (Exit.then (wpOpsIn (FR ro) n P ops Q rest) Q) is a w:=by
  intro is
  induction is with
  | nil=>intro a w hh;exact h a w hh
  | cons i is ih=>
   intro a w h
   simp only[wpOpsIn]at h ⊢
   cases ho:ops[i]? with
   | none=>simp only[ho]at h ⊢;exact ih h
   | some o=>
    simp only[ho]at h ⊢
    by_cases hw:Region.wanted o (yielded ops a.tmps)=true
    ·simp only[hw,if_true]at h ⊢
     exact⟨h.1,uponIn_mono2 (fun a w=>ih) (fun ch a w h=>h.elim) (fun h=>(normSt_out h).elim) h.2⟩
    ·simp only[hw,if_false,Bool.false_eq_true]at h ⊢
     exact⟨h.1,ih h.2⟩
 exact mono h2
theorem WF.split {id:Nat}{ops:Array Oper}(k m:Nat)(hsz:ops.size=k+(m+1))(h:At w0 M E n0 N D φ L (wpOpsIn (FR ro) n P ops Q (List.range' 0 k++(k::List.range' (k+1) m)))):WF ro n P (.region id ops false) w0 M E n0 N D φ L Q:=fun a w hS=>by
 refine wpIn_region ?_
 rw[List.range_eq_range',hsz,←List.range'_append,Nat.zero_add,Nat.one_mul,List.range'_succ]
 exact h a w hS
theorem At.sub {K:Act→World→Prop}(hφ : SubF φ φ2)(hL:LessL L L2)(h0:hp L2 0=.gone)(hs:x2_ (hp L2) L2)(hf:xe_ (hp L2) φ2)(hb:bornTo n0 L2=true)(h:At w0 M E n0 N D φ2 L2 K):At w0 M E n0 N D φ L K:=
 fun a w hS=>h a w (hS.sub hφ hL h0 hs hf hb)
def lrec (fn:FuncId)(tmps:Array Value)(ps:Array Tmp)(asg bd:Code)(d:Nat)(st:LoopState)(pe:Option Code):Loop:={ state:=st,pending:=pe,fn,tmps,params:=ps,assign:=asg,body:=bd,defers:=d }
structure Rec (rec:LoopState→Option Code→Loop) (tmps:Array Value) (ps:Array Tmp) (asg bd:Code):Prop where
 ex:∃fn d,rec=lrec fn tmps ps asg bd d
def CF (E:Env)(n0:Nat)(tmps:Array Value)(N:Nat)(φ : Fr):Prop:=tmps.size=N∧∃L0:List HB,L0.length≤n0∧∀t v,look φ t=some v→zb_ (hp L0) v∧tmps.getD t undef=v.den E
def RoundEnd (w0:World)(M:Nat→Prop)(E2:Env)(k2 id:Nat)(rec:LoopState→Option Code→Loop)(next:Bool→List HB→Prop):Exit→Act→World→Prop
 | .normal,_,w=>∃(β : Env) (L:List HB),(∀i,i < k2→β i=E2 i)∧Rep w0 M β (hp L) w∧(∀i,i < k2→(hp L i).born=true)∧hp L id=.raw (.loop (rec .busy none))∧next true (setH L id (.raw (.loop (rec .ready none))))
 | .ret,_,w=>∃(β : Env) (L:List HB),(∀i,i < k2→β i=E2 i)∧Rep w0 M β (hp L) w∧(∀i,i < k2→(hp L i).born=true)∧hp L id=.raw (.loop (rec .busy none))∧next false (setH L id (.raw (.loop (rec .done (some .ret)))))
 | .exit j,_,w=>∃(β : Env) (L:List HB),(∀i,i < k2→β i=E2 i)∧Rep w0 M β (hp L) w∧(∀i,i < k2→(hp L i).born=true)∧hp L id=.raw (.loop (rec .busy none))∧next false (setH L id (.raw (.loop (rec .done (some (.exit j))))))
 | .goto j,_,w=>∃(β : Env) (L:List HB),(∀i,i < k2→β i=E2 i)∧Rep w0 M β (hp L) w∧(∀i,i < k2→(hp L i).born=true)∧hp L id=.raw (.loop (rec .busy none))∧next false (setH L id (.raw (.loop (rec .done (some (.goto j))))))
 | _,_,_=>False
def Begins (P:Program)(w0:World)(M:Nat→Prop)(E2:Env)(k2 id:Nat)(body:Act→World→Prop)(a:Act)(w:World):Prop:=∃(β : Env) (g:Nat) (w':World),(∀i,i < k2→β i=E2 i)∧(β id).1=some ⟨g,0,none⟩∧(Instr.beginRound g).run P w=.ok () w'∧body a w'
theorem At.begins {id:Nat}{rec:LoopState→Option Code→Loop}{tmps:Array Value}{ps:Array Tmp}{asg bd:Code}{body:Act→World→Prop}(hrec:Rec rec tmps ps asg bd)(hl:hp L id=.raw (.loop (rec .ready none)))(h:At w0 M E n0 N D φ (setH L id (.raw (.loop (rec .busy none)))) body):At w0 M E n0 N D φ L (Begins P w0 M E n0 id body):=fun a w hS=>by
 obtain⟨⟨β,hE,R,F⟩,hbn,hsz,hd⟩:=hS
 obtain⟨fn,d,rfl⟩:=hrec.ex
 have hb:=R.blk id
 rw[hl]at hb
 obtain⟨g,hg,ho⟩:=hb
 refine⟨β,g,_,hE,hg,run_beginRound ho rfl,h a _ ⟨⟨β,hE,?_,fun t v hv=>?_⟩,fun i hi=>?_,hsz,hd⟩⟩
 ·rw[hp_setH]
  exact R.rawPut hl hg
 ·obtain⟨h1,h2⟩:=F t v hv
  rw[hp_setH]
  exact⟨h1.upd rfl,h2⟩
 ·rw[hp_setH]
  unfold Vm.upd
  split
  ·rfl
  ·exact hbn i hi
theorem At.roundNormal {k2 id:Nat}{rec:LoopState→Option Code→Loop}{next:Bool→List HB→Prop}(hl:hp L id=.raw (.loop (rec .busy none)))(h:next true (setH L id (.raw (.loop (rec .ready none))))):At w0 M E k2 N D φ L (RoundEnd w0 M E k2 id rec next .normal):=fun a w hS=>by
 obtain⟨⟨β,hE,R,F⟩,hbn,hsz,hd⟩:=hS
 exact⟨β,L,hE,R,hbn,hl,h⟩
theorem At.roundRet {k2 id:Nat}{rec:LoopState→Option Code→Loop}{next:Bool→List HB→Prop}(hl:hp L id=.raw (.loop (rec .busy none)))(h:next false (setH L id (.raw (.loop (rec .done (some .ret)))))):At w0 M E k2 N D φ L (RoundEnd w0 M E k2 id rec next .ret):=fun a w hS=>by
 obtain⟨⟨β,hE,R,F⟩,hbn,hsz,hd⟩:=hS
 exact⟨β,L,hE,R,hbn,hl,h⟩
theorem At.roundExit {k2 id j:Nat}{rec:LoopState→Option Code→Loop}{next:Bool→List HB→Prop}(hl:hp L id=.raw (.loop (rec .busy none)))(h:next false (setH L id (.raw (.loop (rec .done (some (.exit j))))))):At w0 M E k2 N D φ L (RoundEnd w0 M E k2 id rec next (.exit j)):=fun a w hS=>by
 obtain⟨⟨β,hE,R,F⟩,hbn,hsz,hd⟩:=hS
 exact⟨β,L,hE,R,hbn,hl,h⟩
def parF:List Tmp→List SV→Fr→Fr
 | p::ps,v::vs,φ=>parF ps vs ((p,v) :: φ)
 | _,_,φ=>φ
def allLt (N:Nat):List Tmp→Bool
 | []=>true
 | p::l=>Nat.blt p N && allLt N l
theorem parF_fits {β : Env}{h:HM}:∀(ps:List Tmp) (vs:List SV) (φ : Fr) (tmps:Array Value),allLt tmps.size ps=true→zh_ h vs→ps.length=vs.length→(∀t v,look φ t=some v→zb_ h v∧tmps.getD t undef=v.den β) →
  ∀t v,look (parF ps vs φ) t=some v→zb_ h v∧((ps.zip (denL β vs)).foldl (fun t (p,v)=>t.setIfInBounds p v) tmps).getD t undef=v.den β
 | [],[],φ,tmps,_,_,_,hf=>hf
 | [],_::_,φ,tmps,_,_,h,_=>by cases h
 | _::_,[],φ,tmps,_,_,h,_=>by cases h
 | p::ps,v::vs,φ,tmps,hb,hs,hl,hf=>by
  simp only[allLt,Bool.and_eq_true]at hb
  refine parF_fits ps vs ((p,v) :: φ) (tmps.setIfInBounds p (v.den β)) (by simpa using hb.2) hs.2 (by simpa using hl) fun t u hu=>?_
  simp only[look]at hu
  cases hq:Nat.beq p t with
  | true=>
   rw[hq]at hu
   have:=Nat.eq_of_beq_eq_true hq
   subst this
   injection hu with hu
   subst hu
   have hlt:=Nat.le_of_ble_eq_true hb.1
   exact⟨hs.1,by simp[Array.getD_eq_getD_getElem?,Nat.lt_of_succ_le hlt]⟩
  | false=>
   rw[hq]at hu
   have hne:p≠t:=fun e=>by rw[e]at hq;simp at hq
   obtain⟨h1,h2⟩:=hf t u hu
   refine⟨h1,?_⟩
   rw[Array.getD_eq_getD_getElem?]at h2 ⊢
   rw[Array.getElem?_setIfInBounds_ne hne]
   exact h2
theorem foldl_size:∀(l:List (Tmp×Value)) (tmps:Array Value),(l.foldl (fun t (p,v)=>t.setIfInBounds p v) tmps).size=tmps.size
 | [],tmps=>rfl
 | p::l,tmps=>by rw[List.foldl_cons,foldl_size l];simp
theorem At.yield {ops:Array Oper}{k:Nat}{rest:List Nat}{o:Oper}{cl:Call}{x:Operand}{t:Tmp}{g:Option (Tmp×Bool)}{gr:Option Bool}{cx ca:Prop}{id Nc:Nat}{vs:List SV}{rec:LoopState→Option Code→Loop}{tmps:Array Value}{ps:Array Tmp}{asg bd:Code}{φc:Fr}
  (ho:ops[k]? = some o) (hop:o.op=.call cl) (hcal:cl.callee=.value x) (hdst:o.dst=some t) (htN:Nat.blt t N=true) (hgt:gtmp ops.toList o.guard=some g) (hgv:gval φ g=some gr) (hgr:gr.getD true=true)
  (hx:ev φ x=some (cx,.yl id)) (hcx:cx) (ha:evL φ cl.args.toList=some (ca,vs)) (hca:ca) (hl:hp L id=.raw (.loop (rec .ready none))) (hrec:Rec rec tmps ps asg bd) (hcf:CF E n0 tmps Nc φc) (hps:vs.length=ps.size) (hlt:allLt Nc ps.toList=true) (hbn:bornTo L.length L=true)
  (round:∀(lb:Nat) (E2:Env) (next:Bool→List HB→Prop),(∀i,i < n0→E2 i=E i)→(∀b L2,At w0 M E n0 N D ((t,.bool b) :: φ) L2 (wpOpsIn (FR ro) n P ops Q rest)→next b L2) →
   WF (some lb) (n - 1) P asg w0 M E2 L.length Nc [] (parF ps.toList vs φc) L (Exit.then (Begins P w0 M E2 L.length id (bd.wpIn (FR (some lb)) (n - 1) P (RoundEnd w0 M E2 L.length id rec next))) (fun _ _ _=>False))) :
  At w0 M E n0 N D φ L (wpOpsIn (FR ro) n P ops Q (k::rest)):=fun a w hS=>by
 obtain⟨⟨β,hE,R,F⟩,hborn,hsz,hdf⟩:=hS
 obtain⟨fn,d,rfl⟩:=hrec.ex
 have hxe:=(ev_spec F R.nil R.nil0 hx hcx).2
 obtain⟨hsv,hav⟩:=evL_spec F R.nil R.nil0 ha hca
 have hb:=R.blk id
 rw[hl]at hb
 obtain⟨gb,hgb,hob⟩:=hb
 have hw:Region.wanted o (yielded ops a.tmps)=true:=by
  rw[wanted_gval (φ:=φ) (β:=β) hgt hgv fun t _ v hv=>(F t v hv).2]
  exact hgr
 have hyl:(SV.yl id).den β = .func (.yield gb) #[] #[]:=by simp only[SV.den,hgb]
 have hsize:(cl.args.map a.eval).size=ps.size:=by
  have:=congrArg List.length hav
  rw[List.length_map]at this
  have e:∀l:List SV,(denL β l).length=l.length:=fun l=>by induction l with
   | nil=>rfl
   | cons x l ih=>simp[denL,ih]
  rw[Array.size_map,←Array.length_toList,this,e,hps]
 have hargs:cl.args.map a.eval=(denL β vs).toArray:=by apply Array.ext';simp[hav]
 have hrun:(execOp a.eval o).run P w=.ok (.round gb fn ((ps.toList.zip (denL β vs)).foldl (fun t (p,v)=>t.setIfInBounds p v) tmps) asg bd) w:=by
  have hy:=run_yield (P:=P) (args:=cl.args.map a.eval) hob (by rw[hsize];rfl)
  obtain⟨dst,op,ty,pos,after,gd⟩:=o
  simp only at hop
  subst hop
  obtain⟨callee,args,tys⟩:=cl
  simp only at hcal
  subst hcal
  simp only[execOp,resolve,hxe,hyl,Deferred.ofValue,Sem.run_bind,Sem.run_pure,Result.andThen_ok,invoke,Array.append_empty,Array.empty_append]
  rw[hy]
  simp only at hargs
  rw[hargs]
  congr 2
  simp only[lrec]
  rw[←Array.foldl_toList]
  simp[Array.toList_zip]
 -- the states behind the round
 have done:∀(b:Bool) (L2:List HB) (β2:Env) (w2:World),(∀i,i < L.length→β2 i = β i)→Rep w0 M β2 (hp L2) w2→(∀i,i < L.length→(hp L2 i).born=true)→St w0 M E n0 N D ((t,.bool b) :: φ) L2 (a.put o.dst (.bool b)) w2:=fun b L2 β2 w2 h1 R2 h2=>by
  have hn0:∀i,i < n0→i < L.length:=fun i hi=>by
   rcases Nat.lt_or_ge i L.length with h|h
   ·exact h
   ·have:=hborn i hi;rw[xy_ h]at this;cases this
  have hb:∀i,(hp L i).born=true→i < L.length:=fun i hi=>by
   rcases Nat.lt_or_ge i L.length with h|h
   ·exact h
   ·rw[xy_ h]at hi;cases hi
  have htN':∀t',o.dst=some t'→t' < N:=fun t' e=>by
   rw[hdst]at e;injection e with e;subst e
   exact Nat.le_of_ble_eq_true htN
  refine⟨⟨β2,fun i hi=>(h1 i (hn0 i hi)).trans (hE i hi),R2,fun u v hv=>?_⟩,fun i hi=>h2 i (hn0 i hi),by rw[put_size];exact hsz,by rw[put_defers];exact hdf⟩
  rw[put_get hsz htN',hdst]
  simp only[look]at hv
  cases hq:Nat.beq t u with
  | true=>
   rw[hq]at hv
   have:=Nat.eq_of_beq_eq_true hq
   subst this
   injection hv with hv
   subst hv
   exact⟨trivial,by simp[SV.den]⟩
  | false=>
   rw[hq]at hv
   have hne:t≠u:=fun e=>by rw[e]at hq;simp at hq
   obtain⟨k1,k2⟩:=F u v hv
   refine⟨k1.more fun i hi=>h2 i (hb i hi),?_⟩
   rw[if_neg (by simp[hne]),k2]
   exact k1.den fun i hi=>(h1 i (hb i hi)).symm
 simp only[wpOpsIn,ho,hw,if_true]
 refine⟨fun _ _=>trivial,?_⟩
 have hs:=Oper.semAt_eq (FR ro).round a.eval o (fun c e=>by rw[hop]at e;cases e)
 rw[hs,hrun,Oper.uponIn_round]
 refine⟨(fun h=>by cases h),?_⟩
 have hround:=round gb β (fun b L2=>∀(β2:Env) (w2:World),(∀i,i < L.length→β2 i = β i)→Rep w0 M β2 (hp L2) w2→(∀i,i < L.length→(hp L2 i).born=true)→wpOpsIn (FR ro) n P ops Q rest (a.put o.dst (.bool b)) w2) hE
  (fun b L2 hA β2 w2 h1 R2 h2=>hA _ _ (done b L2 β2 w2 h1 R2 h2))
 have hbL:∀i,i < L.length→(hp L i).born=true:=fun i hi=>by
  simp only[bornTo,List.all_eq_true]at hbn
  exact hbn i (List.mem_range.2 hi)
 obtain⟨htsz,L0,hL0,hcf⟩:=hcf
 have h0 := hround { tmps := (ps.toList.zip (denL β vs)).foldl (fun t (p, v) => t.setIfInBounds p v) tmps, defers := [] } w ⟨⟨β,fun _ _=>rfl,R,parF_fits _ _ _ _ (by rw[htsz];exact hlt) hsv (by rw[hps];simp) fun u v hv=>by
   obtain⟨k1,k2⟩:=hcf u v hv
   have hin:∀i,(hp L0 i).born=true→i < n0:=fun i hi=>by
    rcases Nat.lt_or_ge i L0.length with h|h
    ·omega
    ·rw[xy_ h]at hi;cases hi
   exact⟨k1.more fun i hi=>hborn i (hin i hi),by rw[k2];exact k1.den fun i hi=>(hE i (hin i hi)).symm⟩⟩,hbL,by rw[foldl_size];exact htsz,rfl⟩
 have back:∀{L2:List HB} {β2:Env} {w2:World} {st:LoopState} {pe:Option Code},(∀i,i < L.length→β2 i = β i)→Rep w0 M β2 (hp L2) w2→(∀i,i < L.length→(hp L2 i).born=true)→hp L2 id=.raw (.loop (lrec fn tmps ps asg bd d .busy none)) →
   w2.heap[gb]? = some (.loop (lrec fn tmps ps asg bd d .busy none))∧Rep w0 M β2 (hp (setH L2 id (.raw (.loop (lrec fn tmps ps asg bd d st pe))))) (w2.putObj gb (.loop (lrec fn tmps ps asg bd d st pe)))∧(∀i,i < L.length→(hp (setH L2 id (.raw (.loop (lrec fn tmps ps asg bd d st pe)))) i).born=true):=fun {L2 β2 w2 st pe} h1 R2 h2 h3=>by
  have hid:id < L.length:=by
   rcases Nat.lt_or_ge id L.length with h|h
   ·exact h
   ·have:=xy_ h;rw[hl]at this;cases this
  have hb2:=R2.blk id
  rw[h3]at hb2
  obtain⟨g2,e1,e2⟩:=hb2
  have hg2:g2=gb:=by
   have:=h1 id hid
   rw[this]at e1
   rw[hgb]at e1
   injection e1 with e1
   injection e1 with e1
   exact e1.symm
  subst hg2
  refine⟨e2,?_,fun i hi=>?_⟩
  ·rw[hp_setH]
   exact R2.rawPut h3 e1
  ·rw[hp_setH]
   unfold Vm.upd
   split
   ·rfl
   ·exact h2 i hi
 refine roundIn_of_wpIn trivial (wpIn_mono h0 fun e a1 w1 hq=>?_)
 cases e with
 | normal=>
  obtain⟨β1,g1,w2,hb1,hg1,hrun1,hbody⟩:=hq
  have hid:id < L.length:=by
   rcases Nat.lt_or_ge id L.length with h|h
   ·exact h
   ·have:=xy_ h;rw[hl]at this;cases this
  have e1:g1=gb:=by
   rw[hb1 id hid,hgb]at hg1
   injection hg1 with hg1
   injection hg1 with hg1
   exact hg1.symm
  subst e1
  refine⟨w2,hrun1,wpIn_mono hbody fun e a3 w3 hq=>?_⟩
  cases e with
  | normal=>
   obtain⟨β2,L2,h1,R2,h2,h3,hn⟩:=hq
   obtain⟨k1,k2,k3⟩:=back (st:=.ready) (pe:=none) h1 R2 h2 h3
   exact⟨_,_,run_endRound none k1,hn β2 _ h1 k2 k3⟩
  | ret=>
   obtain⟨β2,L2,h1,R2,h2,h3,hn⟩:=hq
   obtain⟨k1,k2,k3⟩:=back (st:=.done) (pe:=some .ret) h1 R2 h2 h3
   exact⟨_,_,run_endRound (some .ret) k1,hn β2 _ h1 k2 k3⟩
  | exit j=>
   obtain⟨β2,L2,h1,R2,h2,h3,hn⟩:=hq
   obtain⟨k1,k2,k3⟩:=back (st:=.done) (pe:=some (.exit j)) h1 R2 h2 h3
   exact⟨_,_,run_endRound (some (.exit j)) k1,hn β2 _ h1 k2 k3⟩
  | goto j=>
   obtain⟨β2,L2,h1,R2,h2,h3,hn⟩:=hq
   obtain⟨k1,k2,k3⟩:=back (st:=.done) (pe:=some (.goto j)) h1 R2 h2 h3
   exact⟨_,_,run_endRound (some (.goto j)) k1,hn β2 _ h1 k2 k3⟩
  | panic ch=>exact hq.elim
  | outgrown=>exact hq.elim
 | ret=>exact hq.elim
 | exit j=>exact hq.elim
 | goto j=>exact hq.elim
 | panic ch=>exact hq.elim
 | outgrown=>exact hq.elim
end
end Go.Proofs.Ytmljmabbopkpiaa.Vm
end

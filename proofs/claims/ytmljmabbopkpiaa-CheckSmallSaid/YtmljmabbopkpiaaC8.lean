import Derived.Test.YtmljmabbopkpiaaC1
import Derived.Test.YtmljmabbopkpiaaC7
import Derived.Test.YtmljmabbopkpiaaProg
import Derived.IntWalk
import Derived.Test.YtmljmabbopkpiaaChecked
import Derived.ProofKit
import Derived.Deep.Slices
import Derived.Scope
set_option linter.unusedSimpArgs false
set_option linter.unusedVariables false
set_option maxRecDepth 100000
section
namespace Go.Proofs.Ytmljmabbopkpiaa.Vm
open Go.RowKit
def ItEnd (w0:World)(M:Nat→Prop)(E1:Env)(k:Nat)(rec:LoopState→Option Code→Loop)(after:Option Code→List HB→Prop):Exit→Act→World→Prop
 | .ret,a,w | .normal,a,w=>a.defers=[]∧∃(β : Env) (L:List HB) (st:LoopState) (pe:Option Code),(∀i,i < k+2→β i=E1 i)∧Rep w0 M β (hp L) w∧(∀i,i < k+2→(hp L i).born=true)∧hp L k=.raw (.deferred (some []))∧hp L (k+1)=.raw (.loop (rec st pe))∧st≠.busy∧after pe (setH (setH L k .gone) (k+1) .gone)
 | _,_,_=>False
theorem hp_append2 (L:List HB)(x y:HB):hp (L++[x,y])=upd (upd (hp L) L.length x) (L.length+1) y:=by
 funext i
 unfold hp upd
 by_cases h1:i=L.length+1
 ·subst h1;simp
 ·rw[if_neg h1]
  by_cases h2:i=L.length
  ·subst h2;simp
  ·rw[if_neg h2]
   rcases Nat.lt_or_ge i L.length with h|h
   ·simp[List.getElem?_append_left h]
   ·have:L.length+2≤i:=by omega
    simp[List.getElem?_eq_none (show (L++[x,y]).length≤i by simp;omega),List.getElem?_eq_none h]
section
variable {P:Program} {T:Tab} {C:FuncId→Option y4_} {w0:World} {M:Nat→Prop} {E:Env} {n0 N n:Nat} {D:List Deferred} {φ φ2 φ':Fr} {L L2 L':List HB} {Q:Exit→Act→World→Prop} {ro:Option Nat}
theorem At.itRet {k:Nat}{rec:LoopState→Option Code→Loop}{after:Option Code→List HB→Prop}{pe:Option Code}(st:LoopState)(h1:hp L k=.raw (.deferred (some [])))(h2:hp L (k+1)=.raw (.loop (rec st pe)))(h3:st≠.busy)(h:after pe (setH (setH L k .gone) (k+1) .gone)):At w0 M E (k+2) N [] φ L (ItEnd w0 M E k rec after .ret):=fun a w hS=>by
 obtain⟨⟨β,hE,R,F⟩,hbn,hsz,hd⟩:=hS
 exact⟨hd,β,L,st,pe,hE,R,hbn,h1,h2,h3,h⟩
theorem At.itNormal {k:Nat}{rec:LoopState→Option Code→Loop}{after:Option Code→List HB→Prop}{pe:Option Code}(st:LoopState)(h1:hp L k=.raw (.deferred (some [])))(h2:hp L (k+1)=.raw (.loop (rec st pe)))(h3:st≠.busy)(h:after pe (setH (setH L k .gone) (k+1) .gone)):At w0 M E (k+2) N [] φ L (ItEnd w0 M E k rec after .normal):=fun a w hS=>by
 obtain⟨⟨β,hE,R,F⟩,hbn,hsz,hd⟩:=hS
 exact⟨hd,β,L,st,pe,hE,R,hbn,h1,h2,h3,h⟩
def Behind (n:Nat)(P:Program)(w0:World)(M:Nat→Prop)(E:Env)(n0 N:Nat)(D:List Deferred)(φ : Fr)(Q:Exit→Act→World→Prop)(pe:Option Code)(L:List HB):Prop:=∀w1 M1 D1,Anc w0 M D w1 M1 D1→match pe with
 | none=>At w1 M1 E n0 N D1 φ L (Q .normal)
 | some c=>WF none n P c w1 M1 E n0 N D1 φ L Q
theorem WF.range {g : Operand} {ps : Array Tmp} {asg bd c' : Code} {p : Prop} {f : FuncId} {fn' : Func} {caps : List SV} (N' : Nat) (he : ev φ g = some (p, .fn f caps)) (hp_ : p) (hf : P.funcs[f]? = some fn') (hb : fn'.body = some c') (hN' : fn'.ntmps = N') (hname : (fn'.name == "runtime.NumGoroutine") = false) (hres : fn'.results = #[])
  (hlen:Nat.ble (caps.length+1) N'=true) (hbn:bornTo L.length L=true)
  (it:∀(E1:Env) (rec:LoopState→Option Code→Loop) (tmps:Array Value) (after:Option Code→List HB→Prop),(∀i,i < n0→E1 i=E i)→Rec rec tmps ps asg bd→CF E1 (L.length+2) tmps N φ→(∀pe L2,Behind n P w0 M E n0 N D φ Q pe L2→after pe L2) →
   WF none (n - 1) P c' w0 M E1 (L.length+2) N' [] (frameOf 0 (.yl (L.length+1)::caps)) (L++[.raw (.deferred (some [])),.raw (.loop (rec .ready none))]) (ItEnd w0 M E1 L.length rec after)) :
  WF none n P (.rangeFunc g ps asg bd) w0 M E n0 N D φ L Q:=fun a w hS=>by
 obtain⟨⟨β,hE,R,F⟩,hborn,hsz,hdf⟩:=hS
 subst hN'
 have hxe:=ev_spec F R.nil R.nil0 he hp_
 have hn0:∀i,i < n0→i < L.length:=fun i hi=>by
  rcases Nat.lt_or_ge i L.length with h|h
  ·exact h
  ·have:=hborn i hi;rw[xy_ h]at this;cases this
 have hbL:∀i,(hp L i).born=true→i < L.length:=fun i hi=>by
  rcases Nat.lt_or_ge i L.length with h|h
  ·exact h
  ·rw[xy_ h]at hi;cases hi
 have hLb:∀i,i < L.length→(hp L i).born=true:=fun i hi=>by
  simp only[bornTo,List.all_eq_true]at hbn
  exact hbn i (List.mem_range.2 hi)
 refine wpIn_rangeFunc fun fn hfn=>?_
 -- the two blocks
 obtain⟨rec,hrec⟩:∃rec,rec=lrec fn a.tmps ps asg bd w.heap.size:=⟨_,rfl⟩
 have R1:=R.rawNew (m:=L.length) (xy_ (Nat.le_refl _)) (.deferred (some []))
 have R2:=R1.rawNew (m:=L.length+1) (by rw[yp_ (by omega)];exact xy_ (by omega)) (.loop (rec .ready none))
 have hsz1:(w.alloc (.deferred (some []))).heap.size=w.heap.size+1:=by simp
 rw[hsz1]at R2
 obtain⟨E1,hE1⟩:∃E1,E1=setE (setE β L.length (some ⟨w.heap.size,0,none⟩,0)) (L.length+1) (some ⟨w.heap.size+1,0,none⟩,0):=⟨_,rfl⟩
 rw[←hE1]at R2
 have hEk:E1 L.length=(some ⟨w.heap.size,0,none⟩,0):=by rw[hE1,xg_ (by omega),z4_]
 have hEk1:E1 (L.length+1)=(some ⟨w.heap.size+1,0,none⟩,0):=by rw[hE1,z4_]
 have hEb:∀i,i < L.length→E1 i = β i:=fun i hi=>by rw[hE1,xg_ (by omega),xg_ (by omega)]
 obtain⟨W1,hW1⟩:∃W1,W1=(w.alloc (.deferred (some []))).alloc (.loop (rec .ready none)):=⟨_,rfl⟩
 rw[←hW1,←hp_append2]at R2
 refine⟨w.heap.size+1,[mrk w.heap.size],W1,{ target:=.fn (.func f) (denL β caps).toArray,args:=#[.func (.yield (w.heap.size+1)) #[] #[]] },W1,f,#[.func (.yield (w.heap.size+1)) #[] #[]]++(denL β caps).toArray,W1,?_,?_,fun _ _=>trivial,?_,(fun h=>by cases h),?_⟩
 ·rw[hW1,hrec];exact run_enterLoop_outer _ _ _ _ _
 ·simp only[resolve,hxe.2,SV.den,Deferred.ofValue]
  simp[Sem.run_pure]
  rfl
 ·have hne' : ¬ (fn'.name = "runtime.NumGoroutine") := by simpa using hname
  simp[invoke,callFunc,hf,hne',hb]
 have hdenl:denL E1 caps=denL β caps:=(zh_.den (h:=hp L) (fun i hi=>(hEb i (hbL i hi)).symm) (by simpa [zb_]using hxe.1)).symm
 have hlenL:∀l:List SV,(denL E1 l).length=l.length:=fun l=>by induction l with
  | nil=>rfl
  | cons x l ih=>simp[denL,ih]
 refine callsIn_of_wp hf hb trivial (wpIn_mono (it E1 rec a.tmps (Behind n P w0 M E n0 N D φ Q) (fun i hi=>(hEb i (hn0 i hi)).trans (hE i hi)) ⟨fn,w.heap.size,hrec⟩ ⟨hsz,L,by omega,fun t v hv=>?_⟩ (fun _ _ h=>h) _ W1 ⟨⟨E1,fun _ _=>rfl,R2,fun t v hv=>?_⟩,fun i hi=>?_,?_,rfl⟩) fun e a' w' hq=>?_) rfl
 ·obtain⟨k1,k2⟩:=F t v hv
  exact⟨k1,by rw[k2];exact k1.den fun i hi=>(hEb i (hbL i hi)).symm⟩
 ·-- the iterator's frame
  obtain⟨j,rfl,hj⟩:=look_frameOf hv
  rw[Nat.zero_add]
  have hst:zh_ (hp (L++[.raw (.deferred (some [])),.raw (.loop (rec .ready none))])) (.yl (L.length+1)::caps):=by
   refine⟨?_,?_⟩
   ·simp only[zb_,hp_append2,z1_];rfl
   ·refine zh_.more (h:=hp L) (fun i hi=>?_) (by simpa [zb_]using hxe.1)
    rw[hp_append2,yp_ (by have:=hbL i hi;omega),yp_ (by have:=hbL i hi;omega)]
    exact hi
  refine⟨yx_.1 hst _ (List.mem_of_getElem? hj),?_⟩
  have hd:=denL_get (β:=E1) hj
  have hargs:#[.func (.yield (w.heap.size+1)) #[] #[]]++(denL β caps).toArray=(denL E1 (.yl (L.length+1)::caps)).toArray:=by
   rw[←hdenl]
   simp[denL,SV.den,hEk1]
  rw[hargs]
  have hlt:j < (denL E1 (.yl (L.length+1)::caps)).length:=by
   rcases Nat.lt_or_ge j (denL E1 (.yl (L.length+1)::caps)).length with h|h
   ·exact h
   ·rw[List.getElem?_eq_none h]at hd;cases hd
  rw[Array.getD_eq_getD_getElem?,Array.getElem?_append_left (by simpa using hlt)]
  simp[hd]
 ·rw[hp_append2]
  unfold Vm.upd
  split
  ·rfl
  ·split
   ·rfl
   ·exact hLb i (by omega)
 ·have:=Nat.le_of_ble_eq_true hlen
  have e:(denL β caps).length=caps.length:=by rw[←hdenl];exact hlenL caps
  simp[e]
  omega
 ·-- behind the iterator
  have fin:∀{β':Env} {L3:List HB} {st:LoopState} {pe:Option Code},(∀i,i < L.length+2→β' i=E1 i)→Rep w0 M β' (hp L3) w'→(∀i,i < L.length+2→(hp L3 i).born=true)→hp L3 L.length=.raw (.deferred (some []))→hp L3 (L.length+1)=.raw (.loop (rec st pe))→st≠.busy→Behind n P w0 M E n0 N D φ Q pe (setH (setH L3 L.length .gone) (L.length+1) .gone) →
    rangePost (FR none) n P (w.heap.size+1) Q { a with defers:=[mrk w.heap.size]++a.defers } (.returned (.tuple #[])) w':=fun {β' L3 st pe} h1 R' h2 h3 h4 h5 haf=>by
   have hk:=R'.blk (L.length+1)
   rw[h4]at hk
   obtain⟨g1,e1,e2⟩:=hk
   rw[h1 _ (by omega),hEk1]at e1
   injection e1 with e1
   injection e1 with e1
   subst e1
   have hd:=R'.blk L.length
   rw[h3]at hd
   obtain⟨g2,f1,f2⟩:=hd
   rw[h1 _ (by omega),hEk]at f1
   injection f1 with f1
   injection f1 with f1
   subst f1
   have hrun:=run_endLoop (P:=P) e2 (by rw[hrec];exact h5)
   have hpe:(rec st pe).pending=pe:=by rw[hrec];rfl
   obtain⟨o',ho'⟩:∃o',o'=Obj.loop { rec st pe with state:=.exhausted }:=⟨_,rfl⟩
   have hrun':(Instr.endLoop (w.heap.size+1)).run P w'=.ok (rec st pe).pending (w'.putObj (w.heap.size+1) o'):=by rw[ho'];exact hrun
   rw[hpe]at hrun'
   refine⟨pe,_,hrun',?_⟩
   have ek1:(β' (L.length+1)).1=some ⟨w.heap.size+1,0,none⟩:=by rw[h1 _ (by omega),hEk1]
   have ek:(β' L.length).1=some ⟨w.heap.size,0,none⟩:=by rw[h1 _ (by omega),hEk]
   have R3:=((R'.rawPut (o':=o') h4 ek1).forget L.length (by rw[yp_ (by omega),h3];rfl)).forget (L.length+1) (by rw[yp_ (by omega),z1_];rfl)
   have hh:upd (upd (upd (hp L3) (L.length+1) (.raw o')) L.length .gone) (L.length+1) .gone=hp (setH (setH L3 L.length .gone) (L.length+1) .gone):=by
    rw[hp_setH,hp_setH]
    funext i
    unfold Vm.upd
    split
    ·rfl
    ·split
     ·rfl
     ·rfl
   rw[hh]at R3
   obtain⟨L4,hL4⟩:∃L4,L4=setH (setH L3 L.length .gone) (L.length+1) .gone:=⟨_,rfl⟩
   have hL4i:∀i,i≠L.length→i≠L.length+1→hp L4 i=hp L3 i:=fun i n1 n2=>by rw[hL4,hp_setH,hp_setH,yp_ n2,yp_ n1]
   have hL4k:hp L4 L.length=.gone:=by rw[hL4,hp_setH,hp_setH,yp_ (by omega),z1_]
   have hL4k1:hp L4 (L.length+1)=.gone:=by rw[hL4,hp_setH,hp_setH,z1_]
   rw[←hL4]at R3 haf
   have hnm:¬mineSet β' (hp L4) w.heap.size:=fun⟨i,ad,hm,ha,he⟩=>by
    have n1:i≠L.length:=by rintro rfl;rw[hL4k]at hm;cases hm
    have n2:i≠L.length+1:=by rintro rfl;rw[hL4k1]at hm;cases hm
    rw[hL4i i n1 n2]at hm
    exact R'.dist i L.length ad _ n1 hm (by rw[h3];rfl) ha ek he
   have hA:Anc w0 M D (w'.putObj (w.heap.size+1) o') (mineSet β' (hp L4)) (mrk w.heap.size::D):=R3.ancMark R.size hnm ((World.putObj_heap_other (by omega)).trans f2)
   have hSt:St (w'.putObj (w.heap.size+1) o') (mineSet β' (hp L4)) E n0 N (mrk w.heap.size::D) φ L4 { a with defers:=[mrk w.heap.size]++a.defers } (w'.putObj (w.heap.size+1) o'):=by
    refine⟨⟨β',fun i hi=>?_,R3.rebase,fun t v hv=>?_⟩,fun i hi=>?_,hsz,by rw[hdf];rfl⟩
    ·have:=hn0 i hi
     rw[h1 i (by omega),hEb i this]
     exact hE i hi
    ·obtain⟨k1,k2⟩:=F t v hv
     refine⟨k1.more fun i hi=>?_,?_⟩
     ·have:=hbL i hi
      rw[hL4i i (by omega) (by omega)]
      exact h2 i (by omega)
     ·rw[show ({ a with defers:=[mrk w.heap.size]++a.defers }:Act).tmps=a.tmps from rfl,k2]
      refine k1.den fun i hi=>?_
      have:=hbL i hi
      rw[h1 i (by omega),hEb i this]
    ·have:=hn0 i hi
     rw[hL4i i (by omega) (by omega)]
     exact h2 i (by omega)
   have hB:=haf _ _ _ hA
   cases pe with
   | none=>exact hB _ _ hSt
   | some c=>exact hB _ _ hSt
  cases e with
  | normal=>
   obtain⟨hd,β',L3,st,pe,h1,R',h2,h3,h4,h5,haf⟩:=hq
   exact⟨hd,_,results_none hres _ _ _,fin h1 R' h2 h3 h4 h5 haf⟩
  | ret=>
   obtain⟨hd,β',L3,st,pe,h1,R',h2,h3,h4,h5,haf⟩:=hq
   exact⟨hd,_,results_none hres _ _ _,fin h1 R' h2 h3 h4 h5 haf⟩
  | exit j=>exact hq.elim
  | goto j=>exact hq.elim
  | panic ch=>exact hq.elim
  | outgrown=>exact hq.elim
end
end Go.Proofs.Ytmljmabbopkpiaa.Vm
end
section
namespace Go.Proofs.Ytmljmabbopkpiaa.Vm
open Go.RowKit
theorem start (W:World):Rep W (fun _=>False) (fun _=>(none,0)) (hp [.gone]) W:=by
 have h1:∀i,hp [.gone] i=.gone∨hp [.gone] i=.dead:=fun i=>by
  cases i with
  | zero=>exact .inl rfl
  | succ i=>exact .inr (by unfold hp;simp)
 have hm:∀i,(hp [.gone] i).mine=false:=fun i=>by rcases h1 i with h|h<;>rw[h]<;>rfl
 refine { os:=rfl,tape:=rfl,output:=rfl,size:=Nat.le_refl _,frame:=fun _ _ _=>rfl,nil:=rfl,nil0:=rfl,st:=fun i=>?_,blk:=fun i=>?_,own:=fun i a h=>?_,ro:=fun i v a h=>?_,dist:=fun i j ai aj _ h=>?_,lt:=fun i a h=>?_ }
 ·rcases h1 i with h|h<;>rw[h]<;>trivial
 ·rcases h1 i with h|h<;>rw[h]<;>trivial
 ·rw[hm i]at h;cases h
 ·rcases h1 i with h'|h'<;>rw[h']at h<;>cases h
 ·rw[hm i]at h;cases h
 ·rw[hm i]at h;cases h
theorem Rep.handedN {W:World}{β : Env}{L:List HB}(R:Rep W (fun _=>False) β (hp L) W)(m:Nat)(hm:L.length=m){A:Option Addr}{n cap k:Nat}{f:Nat→SV}(hr:xi_ W W.heap.size k A n (zx_ β k n f))(hn:n≤cap)(hf:∀q,zb_ (hp L) (f q))(hk:0 < k) :
  ∃β',(∀i,i < m→β i = β' i)∧Rep W (fun _=>False) β' (hp (setH (setH L m .gone) (m+1) (.ro (.arr n k f)))) W∧(SV.sl m (m+1) [] k 0 n (some cap)).den β'=.slice A n cap:=by
 have h1:hp L m=.dead:=xy_ (by omega)
 have h2:hp L (m+1)=.dead:=xy_ (by omega)
 have R1:=R.birth m h1 (A,cap) .gone trivial rfl trivial (fun a hm _=>by cases hm) (fun v a hv=>by cases hv)
 have hs:zb_ (hp L) (.arr n k f):=by simp only[zb_];exact hf
 have born1:∀i,(hp L i).born=true→(upd (hp L) m .gone i).born=true:=fun i hi=>by unfold upd;split<;>simp_all [HB.born]
 have hs1:zb_ (upd (hp L) m .gone) (.arr n k f):=hs.more born1
 let e2:Option Addr×Nat:=(if n=0 then none else A,n)
 have ag:∀i,(hp L i).born=true→β i=setE (setE β m (A,cap)) (m+1) e2 i:=fun i hi=>by
  rw[xg_ (by rintro rfl;rw[h2]at hi;cases hi),xg_ (by rintro rfl;rw[h1]at hi;cases hi)]
 have hcl:(SV.arr n k f).cl (setE (setE β m (A,cap)) (m+1) e2)=zx_ β k n f:=by rw[←hs.cl ag,cl_arr']
 have R2:=R1.birth (m+1) (by rw[yp_ (by omega)];exact h2) e2 (.ro (.arr n k f)) (hs1.more fun i hi=>by unfold upd at hi ⊢;split<;>simp_all [HB.born]) rfl ?_ (fun a hm _=>by cases hm) ?_
 ·refine⟨setE (setE β m (A,cap)) (m+1) e2,fun i hi=>by rw[xg_ (by omega),xg_ (by omega)],by rw[hp_setH,hp_setH];exact R2,?_⟩
  simp only[SV.den,z4_,xg_ (show m≠m+1 by omega),Option.getD_some]
  by_cases h0:n=0
  ·subst h0;simp
  ·obtain⟨ad,rfl,_⟩:=hr.2 (by omega)
   have e:max n cap=cap:=by omega
   simp[h0,e2,e,offp,Addr.add]
 ·refine⟨fun a ha j x hx=>?_,fun hn=>?_,fun n' k' f' hv=>?_⟩
  ·rw[z4_]at ha
   rw[hcl]at hx
   by_cases h0:n=0
   ·simp[e2,h0]at ha
   ·obtain⟨ad,rfl,_,hc⟩:=hr.2 (by omega)
    simp[e2,h0]at ha
    subst ha
    exact hc j x hx
  ·rw[z4_]at hn
   by_cases h0:n=0
   ·simp[SV.size,h0]
   ·obtain⟨ad,rfl,_⟩:=hr.2 (by omega)
    simp[e2,h0]at hn
  ·injection hv with q1 q2 q3
   rw[z4_]
   exact Nat.le_of_eq q1.symm
 ·intro v a hv ha hz
  injection hv with hv
  subst hv
  by_cases h0:n=0
  ·simp[e2,h0]at ha
  ·obtain⟨ad,rfl,hb,_⟩:=hr.2 (by omega)
   simp[e2,h0]at ha
   subst ha
   exact⟨hb,id⟩
theorem zp_ {w0 w:World}{M:Nat→Prop}{β : Env}{h h':HM}(R:Rep w0 M β h' w){k:Nat}{z0 v:SV}{c:Prop}{n:Nat}{f:Nat→SV}{rd:List Nat}(ha:srcV h k z0 v=some (c,n,f,rd))(hc:c)(hrd:∀i∈rd,h' i=h i)(hk:0 < k) :
  ∃A cap,v.den β = .slice A n cap∧n≤cap∧xi_ w w.heap.size k A n (zx_ β k n f):=by
 unfold srcV at ha
 split at ha
 ·rename_i z i pa k' s n' cp
  split at ha
  ·simp only[Option.some.injEq,Prod.mk.injEq]at ha
   obtain⟨rfl,rfl,rfl,rfl⟩:=ha
   subst hc
   exact⟨(β z).1,max 0 (cp.getD (β z).2),by simp only[SV.den,if_true],Nat.zero_le _,by simp[zx_],fun h=>absurd h (by omega)⟩
  ·rename_i i
   split at ha
   ·rename_i u hv
    split at ha
    ·rename_i d N k'' f' hnav
     obtain⟨hb,ha⟩:=zn_ ha
     simp only[Option.some.injEq,Prod.mk.injEq]at ha
     obtain⟨rfl,rfl,rfl,rfl⟩:=ha
     rw[Bool.and_eq_true]at hb
     have hb1:=Nat.eq_of_beq_eq_true hb.1
     have hb2:=Nat.eq_of_beq_eq_true hb.2
     subst hb1 hb2
     obtain⟨hd,hc⟩:=hc
     have hi:h' (i+1)=h (i+1):=hrd (i+1) (.head _)
     have hB:=R.blk (i+1)
     rw[hi]at hB
     by_cases h0:n'=0
     ·subst h0
      exact⟨(β z).1,max 0 (cp.getD (β z).2),by simp only[SV.den,if_true],Nat.zero_le _,by simp[zx_],fun h=>absurd h (by omega)⟩
     ·refine⟨_,_,den_sl_pos h0,by omega,zv_,fun _=>?_⟩
      have hpos:0 < (SV.arr N k f').size:=by
       simp only[SV.size]
       exact Nat.mul_pos (by omega) hk
      obtain⟨ad,hba,hcell⟩:=cells_at (pa:=pa) hB hv (u:=SV.arr N k f') hnav hd hpos
      have hup:0 < u.size:=by
       obtain⟨pre,post,e,_⟩:=nav_spec β pa u d _ hnav hd
       have e2:=congrArg List.length e
       rw[zy_,List.length_append,List.length_append,zy_]at e2
       omega
      have hblk:ad.block < w.heap.size:=by
       cases hh:h (i+1)with
       | own t u' ex=>exact R.lt (i+1) ad (by rw[hi,hh];rfl) hba
       | ro u'=>
        rw[hh]at hv
        injection hv with hv
        subst hv
        exact Nat.lt_of_lt_of_le (R.ro (i+1) _ ad (hi.trans hh) hba hup).1 R.size
       | raw o=>rw[hh]at hv;cases hv
       | gone=>rw[hh]at hv;cases hv
       | dead=>rw[hh]at hv;cases hv
      refine⟨_,rfl,?_,fun j x hx=>?_⟩
      ·rw[block_add,hba];exact hblk
      ·rw[hba]
       simp only[Option.getD_some]
       rw[add_add]
       have:=hcell (s*k+j) x ?_
       ·rw[add_add]at this
        rw[←Nat.add_assoc]at this
        exact this
       ·rw[cl_arr']
        have e2:zx_ β k N f'=zx_ β k s f'++(zx_ β k n' (fun q=>f' (s+q))++zx_ β k (N - s - n') (fun q=>f' (s+n'+q))):=by
         have:N=s+(n'+(N - s - n')):=by omega
         conv=>lhs;rw[this]
         rw[elems_split,elems_split]
         simp only[Nat.add_assoc]
        rw[e2,List.getElem?_append_right (by rw[zv_];omega),zv_,Nat.add_sub_cancel_left,List.getElem?_append_left]
        ·exact hx
        ·exact(List.getElem?_eq_some_iff.1 hx).1
    ·cases ha
   ·cases ha
 ·cases ha
structure View where
 k:Nat
 n:Nat
 F:Nat→SV
 A:Option Addr
 cap:Nat
structure View.Ok (w:World) (x:View):Prop where
 r:∀β : Env,xi_ w w.heap.size x.k x.A x.n (zx_ β x.k x.n x.F)
 c:x.n≤x.cap
 s:∀(h:HM) (q:Nat),zb_ h (x.F q)
 p:0 < x.k
def viewL:List View→List HB
 | []=>[]
 | x::l=>.gone :: .ro (.arr x.n x.k x.F)::viewL l
def Vd (β : Env):Nat→List View→Prop
 | _,[]=>True
 | m,x::l=>(SV.sl m (m+1) [] x.k 0 x.n (some x.cap)).den β = .slice x.A x.n x.cap∧Vd β (m+2) l
theorem setH_end:∀(L:List HB) (b:HB),setH L L.length b=L++[b]
 | [],b=>rfl
 | x::l,b=>by show x::setH l l.length b=_;rw[setH_end l b];rfl
theorem handedAll {W:World}:∀(l:List View) {β : Env} {L:List HB},(∀x∈l,x.Ok W)→Rep W (fun _=>False) β (hp L) W →
  ∃β',(∀i,i < L.length→β i = β' i)∧Rep W (fun _=>False) β' (hp (L++viewL l)) W∧Vd β' L.length l
 | [],β,L,_,R=>⟨β,fun _ _=>rfl,by simpa [viewL]using R,trivial⟩
 | x::l,β,L,hok,R=>by
  have hx:=hok x (.head _)
  -- without regard to what is born: by numbers
  have h1:hp L L.length=.dead:=xy_ (Nat.le_refl _)
  have h2:hp L (L.length+1)=.dead:=xy_ (by omega)
  obtain⟨β1,a1,R1,d1⟩:=R.handedN L.length rfl (hx.r β) hx.c (fun q=>hx.s _ q) hx.p
  rw[setH_end,show L.length+1=(L++[HB.gone]).length by simp,setH_end,List.append_assoc]at R1
  obtain⟨β2,a2,R2,d2⟩:=handedAll l (fun y hy=>hok y (.tail _ hy)) R1
  refine⟨β2,fun i hi=>(a1 i hi).trans (a2 i (by simp;omega)),by simpa [viewL,List.append_assoc]using R2,?_,?_⟩
  ·rw[←d1]
   simp only[SV.den,a2 L.length (by simp),a2 (L.length+1) (by simp)]
  ·simpa using d2
def newB (ρ : Nat→Nat):Nat→List HB→List (Nat×HB)
 | _,[]=>[]
 | m,b::l=>(m,b.ren ρ)::newB ρ (m+1) l
theorem wrs_newB {ρ : Nat→Nat}:∀(l:List HB) (m:Nat) (h:HM) (j:Nat),wrs h (newB ρ m l) j=if m≤j∧j < m+l.length then(l.getD (j - m) .dead).ren ρ else h j
 | [],m,h,j=>by
  rw[if_neg (fun⟨h1,h2⟩=>by simp at h2;omega)]
  rfl
 | b::l,m,h,j=>by
  show wrs (upd h m (b.ren ρ)) (newB ρ (m+1) l) j=_
  rw[wrs_newB l (m+1)]
  by_cases h1:j=m
  ·subst h1
   rw[if_neg (by omega),z1_,if_pos ⟨Nat.le_refl _,by simp⟩]
   simp
  ·by_cases h2:m+1≤j∧j < m+1+l.length
   ·rw[if_pos h2,if_pos ⟨by omega,by simp;omega⟩]
    obtain⟨q,hq⟩:∃q,j - m=q+1:=⟨j - m - 1,by omega⟩
    rw[hq,List.getD_cons_succ,show j - (m+1)=q by omega]
   ·rw[if_neg h2,if_neg (by simp;omega),yp_ h1]
def rho (n0 m:Nat):Nat→Nat:=fun i=>if i < n0 then 0 else m+(i - n0)
def hN (n0:Nat)(L1:List HB):HM:=fun i=>if i < n0 then(if i=0 then .gone else .dead)else hp L1 i
theorem graftRo {w0 w w':World}{M:Nat→Prop}{β β1:Env}{h:HM}{L1:List HB}{n0 m:Nat}(R:Rep w0 M β h w)(R1:Rep w (fun _=>False) β1 (hp L1) w')(hn0:0 < n0)(hm:∀i,m≤i→i < m+(L1.length - n0)→h i=.dead)
  (hnew:∀i,n0≤i→(hp L1 i).stable (hN n0 L1)∧(hp L1 i).isRo=false) {v:SV} (hv:zb_ (hN n0 L1) v) :
  ∃β',(∀i,(h i).born=true→β i = β' i)∧Rep w0 M β' (wrs h (newB (rho n0 m) m (L1.drop n0))) w'∧zb_ (wrs h (newB (rho n0 m) m (L1.drop n0))) (v.ren (rho n0 m))∧v.den β1=(v.ren (rho n0 m)).den β':=by
 obtain⟨k,hk⟩:∃k,k=L1.length - n0:=⟨_,rfl⟩
 have hlen:(L1.drop n0).length=k:=by rw[List.length_drop,hk]
 have born_old:∀i,(h i).born=true→¬(m≤i∧i < m+k):=fun i hi hc=>by
  rw[hm i hc.1 (by rw[←hk];exact hc.2)]at hi;cases hi
 have hz:¬(m≤0∧0 < m+k):=born_old 0 (by rw[R.nil0];rfl)
 have hget:∀j,m≤j→(L1.drop n0).getD (j - m) .dead=hp L1 (n0+(j - m)):=fun j hj=>by
  unfold hp
  rw[List.getD_eq_getElem?_getD,List.getD_eq_getElem?_getD,List.getElem?_drop]
 let h2:HM:=wrs h (newB (rho n0 m) m (L1.drop n0))
 have hnewj:∀j,m≤j→j < m+k→h2 j=(hp L1 (n0+(j - m))).ren (rho n0 m):=fun j h1 h3=>by
  show wrs h (newB (rho n0 m) m (L1.drop n0)) j=_
  rw[wrs_newB,if_pos ⟨h1,by omega⟩,hget j h1]
 have holdj:∀j,¬(m≤j∧j < m+k)→h2 j=h j:=fun j hj=>by
  show wrs h (newB (rho n0 m) m (L1.drop n0)) j=_
  rw[wrs_newB,if_neg (by rw[hlen];exact hj)]
 let β':Env:=fun j=>if m≤j∧j < m+k then β1 (n0+(j - m))else β j
 have hβn:∀j,m≤j→j < m+k→β' j = β1 (n0+(j - m)):=fun j h1 h3=>if_pos ⟨h1,h3⟩
 have hβo:∀j,¬(m≤j∧j < m+k)→β' j = β j:=fun j hj=>if_neg hj
 have bornN:∀i,(hN n0 L1 i).born=true→i=0∨(n0≤i∧i < n0+k):=fun i hi=>by
  unfold hN at hi
  split at hi
  ·split at hi
   ·left;assumption
   ·cases hi
  ·right
   refine⟨by omega,?_⟩
   rcases Nat.lt_or_ge i L1.length with hh|hh
   ·omega
   ·rw[xy_ hh]at hi;cases hi
 have hrb:∀i,(hN n0 L1 i).born=true→β' (rho n0 m i) = β1 i:=fun i hi=>by
  rcases bornN i hi with rfl|⟨h1,h3⟩
  ·have e:rho n0 m 0=0:=if_pos hn0
   rw[e,hβo 0 hz,R.nil,R1.nil]
  ·have e:rho n0 m i=m+(i - n0):=if_neg (by omega)
   rw[e,hβn _ (by omega) (by omega),show n0+(m+(i - n0) - m)=i by omega]
 have more:∀i,(h i).born=true→(h2 i).born=true:=fun i hi=>by
  rw[holdj i (born_old i hi)];exact hi
 have moreN:∀i,(hN n0 L1 i).born=true→(h2 (rho n0 m i)).born=true:=fun i hi=>by
  rcases bornN i hi with rfl|⟨h1,h3⟩
  ·have e:rho n0 m 0=0:=if_pos hn0
   rw[e]
   exact more 0 (by rw[R.nil0];rfl)
  ·have e:rho n0 m i=m+(i - n0):=if_neg (by omega)
   rw[e,hnewj _ (by omega) (by omega),show n0+(m+(i - n0) - m)=i by omega]
   have:hN n0 L1 i=hp L1 i:=if_neg (by omega)
   rw[this]at hi
   cases hh:hp L1 i<;>rw[hh]at hi<;>first|rfl |(cases hi;done)
 have agree:∀i,(h i).born=true→β i = β' i:=fun i hi=>(hβo i (born_old i hi)).symm
 have mineN:∀j,(h2 j).mine=true→(m≤j∧j < m+k∧(hp L1 (n0+(j - m))).mine=true)∨(¬(m≤j∧j < m+k)∧(h j).mine=true):=fun j hj=>by
  by_cases hc:m≤j∧j < m+k
  ·left
   refine⟨hc.1,hc.2,?_⟩
   rw[hnewj j hc.1 hc.2]at hj
   cases hh:hp L1 (n0+(j - m))<;>rw[hh]at hj<;>first|rfl |(cases hj;done)
  ·right
   rw[holdj j hc]at hj
   exact⟨hc,hj⟩
 have newHi:∀j a,m≤j→j < m+k→(hp L1 (n0+(j - m))).mine=true→(β' j).1=some a→w.heap.size≤a.block∧a.block < w'.heap.size:=fun j a h1 h3 hmi ha=>by
  rw[hβn j h1 h3]at ha
  refine⟨?_,R1.lt _ a hmi ha⟩
  rcases R1.own _ a hmi ha with hh|hh
  ·exact hh
  ·exact hh.elim
 refine⟨β',agree,?_,hv.ren moreN,(den_ren hrb hv).symm⟩
 show Rep w0 M β' h2 w'
 refine { os:=R1.os.trans R.os,tape:=R1.tape.trans R.tape,output:=R1.output.trans R.output,size:=Nat.le_trans R.size R1.size,frame:=?_,nil:=?_,nil0:=?_,st:=?_,blk:=?_,own:=?_,ro:=?_,dist:=?_,lt:=?_ }
 ·intro g hg hM
  exact(R1.frame g (Nat.lt_of_lt_of_le hg R.size) id).trans (R.frame g hg hM)
 ·rw[hβo 0 hz];exact R.nil
 ·rw[holdj 0 hz];exact R.nil0
 ·intro j
  by_cases hc:m≤j∧j < m+k
  ·rw[hnewj j hc.1 hc.2]
   have hs:=(hnew (n0+(j - m)) (by omega)).1
   cases hh:hp L1 (n0+(j - m))with
   | own t u ex=>rw[hh]at hs;exact zb_.ren moreN hs
   | ro u=>rw[hh]at hs;exact zb_.ren moreN hs
   | raw o=>trivial
   | gone=>trivial
   | dead=>trivial
  ·rw[holdj j hc]
   exact HB.stable_more (R.st j) more
 ·intro j
  by_cases hc:m≤j∧j < m+k
  ·rw[hnewj j hc.1 hc.2]
   exact holds_ren hrb (hnew (n0+(j - m)) (by omega)).1 (hβn j hc.1 hc.2) (R1.blk _)
  ·rw[holdj j hc]
   refine holds_env (R.st j) agree (hβo j hc).symm (holds_world (R.blk j) fun a ha hk'=>R1.frame a.block ?_ id)
   rcases hk' with hk'|⟨u,hu,hz⟩
   ·exact R.lt j a hk' ha
   ·exact Nat.lt_of_lt_of_le (R.ro j u a hu ha hz).1 R.size
 ·intro j a hmj ha
  rcases mineN j hmj with ⟨h1,h3,h4⟩|⟨hc,h4⟩
  ·exact .inl (Nat.le_trans R.size (newHi j a h1 h3 h4 ha).1)
  ·rw[hβo j hc]at ha
   exact R.own j a h4 ha
 ·intro j u a hu ha hz
  by_cases hc:m≤j∧j < m+k
  ·rw[hnewj j hc.1 hc.2]at hu
   have hs:=(hnew (n0+(j - m)) (by omega)).2
   cases hh:hp L1 (n0+(j - m))<;>rw[hh]at hu hs<;>cases hu
   cases hs
  ·rw[holdj j hc]at hu
   rw[hβo j hc]at ha
   exact R.ro j u a hu ha hz
 ·intro i j ai aj hne hmi hmj hai haj
  rcases mineN i hmi with ⟨h1,h3,h4⟩|⟨hc,h4⟩
  ·rcases mineN j hmj with ⟨g1,g3,g4⟩|⟨gc,g4⟩
   ·rw[hβn i h1 h3]at hai
    rw[hβn j g1 g3]at haj
    exact R1.dist _ _ ai aj (by omega) h4 g4 hai haj
   ·have:=(newHi i ai h1 h3 h4 hai).1
    rw[hβo j gc]at haj
    have:=R.lt j aj g4 haj
    omega
  ·rcases mineN j hmj with ⟨g1,g3,g4⟩|⟨gc,g4⟩
   ·have:=(newHi j aj g1 g3 g4 haj).1
    rw[hβo i hc]at hai
    have:=R.lt i ai h4 hai
    omega
   ·rw[hβo i hc]at hai
    rw[hβo j gc]at haj
    exact R.dist i j ai aj hne h4 g4 hai haj
 ·intro j a hmj ha
  rcases mineN j hmj with ⟨h1,h3,h4⟩|⟨hc,h4⟩
  ·exact(newHi j a h1 h3 h4 ha).2
  ·rw[hβo j hc]at ha
   exact Nat.lt_of_lt_of_le (R.lt j a h4 ha) R1.size
theorem newB_mem {ρ : Nat→Nat}:∀{l:List HB} {m j:Nat},m≤j→j < m+l.length→∃b,(j,b)∈newB ρ m l
 | [],m,j,h1,h2=>by simp at h2;omega
 | b::l,m,j,h1,h2=>by
  by_cases h:j=m
  ·subst h;exact⟨_,.head _⟩
  ·obtain⟨b',hb⟩:=newB_mem (ρ:=ρ) (l:=l) (m:=m+1) (j:=j) (by omega) (by simp at h2;omega)
   exact⟨b',.tail _ hb⟩
def NewL (h:HM):List HB→Prop
 | []=>True
 | b::l=>(b.stable h∧b.isRo=false)∧NewL h l
theorem newL_get {h:HM}:∀{l:List HB},NewL h l→∀j,(l.getD j .dead).stable h∧(l.getD j .dead).isRo=false
 | [],_,j=>by simp[HB.stable,HB.isRo]
 | b::l,hl,0=>hl.1
 | b::l,hl,j+1=>by rw[List.getD_cons_succ];exact newL_get hl.2 j
theorem newL_spec {h:HM}{n0:Nat}{L1:List HB}(hl:NewL h (L1.drop n0)):∀i,n0≤i→(hp L1 i).stable h∧(hp L1 i).isRo=false:=fun i hi=>by
 have:=newL_get hl (i - n0)
 rw[List.getD_eq_getElem?_getD,List.getElem?_drop,show n0+(i - n0)=i by omega]at this
 unfold hp
 rw[List.getD_eq_getElem?_getD]
 exact this
theorem yb_ {P:Program}{f:FuncId}{args:List SV}{views:List View}{L1:List HB}{v:SV}{w0 w:World}{M:Nat→Prop}{β : Env}{h h':HM}{m:Nat}{vals:List Value}(H:zz_ P f args (.gone::viewL views) v L1)(hok:∀x∈views,x.Ok w)(R:Rep w0 M β h' w)(hm:∀i,m≤i→h i=.dead)
  (hwr:∀p∈newB (rho ((viewL views).length+1) m) m (L1.drop ((viewL views).length+1)),h' p.1=h p.1)
  (hargs:∀β1:Env,Vd β1 1 views→denL β1 args=vals) (hnew:NewL (hN ((viewL views).length+1) L1) (L1.drop ((viewL views).length+1))) (hv:zb_ (hN ((viewL views).length+1) L1) v) :
  Calls P f vals.toArray w fun e w'=>∃β',(∀i,(h' i).born=true→β i = β' i)∧Rep w0 M β' (wrs h' (newB (rho ((viewL views).length+1) m) m (L1.drop ((viewL views).length+1)))) w'∧zb_ (wrs h' (newB (rho ((viewL views).length+1) m) m (L1.drop ((viewL views).length+1)))) (v.ren (rho ((viewL views).length+1) m))∧e=.returned ((v.ren (rho ((viewL views).length+1) m)).den β'):=by
 obtain⟨β1,a1,R0,d1⟩:=handedAll views hok (start w)
 rw[←hargs β1 d1]
 refine(H w _ β1 w R0).mono fun e w' ⟨β2,k1,R2,k3,k4⟩=>?_
 obtain ⟨β', g1, g2, g3, g4⟩ := graftRo R R2 (Nat.succ_pos _) (fun i hi hlt=>by
  obtain⟨b,hb⟩:=newB_mem (ρ:=rho ((viewL views).length+1) m) (l:=L1.drop ((viewL views).length+1)) hi (by rw[List.length_drop];exact hlt)
  exact(hwr _ hb).trans (hm i hi)) (newL_spec hnew) hv
 exact⟨β',g1,g2,g3,by rw[k4,g4]⟩
theorem post_read {w0 w:World}{M:Nat→Prop}{β : Env}{h':HM}{v:SV}{x:Value}{e:Ending}{w':World}(R:Rep w0 M β h' w)(hs:zb_ h' v)(hx:x=v.den β)(he:e=.returned x)(hb:Below w.heap.size w w') :
  ∃β',(∀i,(h' i).born=true→β i = β' i)∧Rep w0 M β' (wrs h' []) w'∧zb_ (wrs h' []) v∧e=.returned (v.den β'):=
 ⟨β,fun _ _=>rfl,R.below hb,hs,by rw[he,hx]⟩
def named (P:Program)(f:FuncId):Bool:=match P.funcs[f]? with
 | some fn => !(fn.name == "runtime.NumGoroutine") && !fn.body.isNone
 | none=>false
theorem zg_ {P : Program} {f : FuncId} (h : named P f = true) : ∃ fn, P.funcs[f]? = some fn ∧ (fn.name == "runtime.NumGoroutine") = false ∧ fn.body.isNone = false := by
 unfold named at h
 split at h
 ·rename_i fn hf
  rw[Bool.and_eq_true]at h
  exact⟨fn,hf,by simpa using h.1,by simpa using h.2⟩
 ·cases h
theorem look2_mem {α : Type}:∀{l:List (Nat×α)} {t:Nat} {v:α},xz_ l t=some v→(t,v)∈l
 | [],t,v,h=>by cases h
 |(k,x)::l,t,v,h=>by
  simp only[xz_]at h
  cases hb:Nat.beq k t with
  | true=>
   rw[hb]at h
   have:=Nat.eq_of_beq_eq_true hb
   subst this
   injection h with h;subst h
   exact .head _
  | false=>rw[hb]at h;exact .tail _ (look2_mem h)
def allOk (P:Program):List (Nat×y4_)→Prop
 | []=>True
 | p::l=>zm_ P p.1 p.2∧allOk P l
theorem z0_ {P:Program}:∀{l:List (Nat×y4_)},allOk P l→∀f S,xz_ l f=some S→zm_ P f S:=fun {l} hl f S h=>by
 have:=look2_mem h
 clear h
 induction l with
 | nil=>cases this
 | cons p l ih=>
  rcases List.mem_cons.1 this with e|e
  ·subst e;exact hl.1
  ·exact ih hl.2 e
theorem z7_ {β : Env}(l:List SV):(SV.agg l).den β = .agg ((denL β l).flatMap fun v=>v.cells.toList.map sane).toArray:=rfl
theorem z6_ {β : Env}(k:IntKind)(n:Int):(SV.int k n).den β = .int k n:=rfl
theorem z5_ {β : Env}(k:IntKind)(n:Nat):(SV.nat k n).den β = .int k (n:Int):=rfl
theorem zt_ {β : Env}(b:Bool):(SV.bool b).den β = .bool b:=rfl
theorem den_insOf {v:SV}{β : Env}(h:xt_ v=true):v.den β =(zd_ v).v:=by
 have ha:v.isAgg=true:=by cases v<;>first|rfl |(cases h;done)
 rw[den_agg ha,isIns_cl h];rfl
theorem den_insS {β : Env}(i:Ins):(insS i).den β = i.v:=rfl
def prS (p:List Ins):Nat→SV:=fun q=>insS (p.getD q ⟨0,0,0,0,0⟩)
theorem prS_stable {h:HM}{p:List Ins}(q:Nat):zb_ h (prS p q):=by simp[prS,insS,zb_,zh_]
theorem elems_prS {β : Env}(p:List Ins):zx_ β 5 p.length (prS p)=insV p:=by
 rw[elems_ins fun q _=>rfl]
 congr 1
 exact ls_of yi_ p _
def zw_ (l:List Int):Nat→SV:=fun q=>.int .i64 (l.getD q 0)
def sndsS (l:List Snd):Nat→SV:=fun q=>sndS (l.getD q ⟨0,0,0⟩)
theorem i64S_stable {h:HM}{l:List Int}(q:Nat):zb_ h (zw_ l q):=trivial
theorem elems_i64S {β : Env}(l:List Int):zx_ β 1 l.length (zw_ l)=int64s l:=by
 rw[elems_i64 fun q _=>rfl]
 congr 1
 exact ls_of (g:=iOf) (e:=fun x=>.int .i64 x) (fun _=>rfl) l 0
section
variable {w:World} {β : Env} {A:Option Addr} {n cap:Nat} {f:Nat→SV}
theorem viewI64 (hr:xi_ w w.heap.size 1 A n (zx_ β 1 n f))(hn:n≤cap)(hf:∀q,q < n→isI .i64 (f q)=true):(View.mk 1 (ls iOf n f).length (zw_ (ls iOf n f)) A cap).Ok w:=
 ⟨fun β'=>by rw[elems_i64S,zc_];rwa [elems_i64 hf]at hr,by rw[zc_];exact hn,fun h q=>i64S_stable q,Nat.succ_pos _⟩
theorem y2_ (hr:xi_ w w.heap.size 5 A n (zx_ β 5 n f))(hn:n≤cap)(hf:∀q,q < n→xt_ (f q)=true):(View.mk 5 (ls zd_ n f).length (prS (ls zd_ n f)) A cap).Ok w:=
 ⟨fun β'=>by rw[elems_prS,zc_];rwa [elems_ins hf]at hr,by rw[zc_];exact hn,fun h q=>prS_stable q,Nat.succ_pos _⟩
end
end Go.Proofs.Ytmljmabbopkpiaa.Vm
end
section
namespace Go.Proofs.Ytmljmabbopkpiaa
open Go.RowKit
theorem reads_new (X:World)(t:TypeId)(cs:Array Value)(k n B gg:Nat)(h:gg=X.heap.size)(hB:gg < B)(hl:cs.size=n*k):xi_ (X.alloc (.cells cs t)) B k (some ⟨gg,0,none⟩) n cs.toList:=by
 subst h
 refine⟨by simpa using hl,fun _=>⟨_,rfl,hB,fun j u hu=>?_⟩⟩
 rw[Addr.add_lit,cell_of_row _ _ _ _ _ _ (heap_alloc_new X _),Nat.zero_add]
 simpa using hu
theorem Blk.row {W:World}{g:Nat}{t:TypeId}{cs:Array Value}(h:Blk W g t cs)(cs':Array Value):Blk (W.setRow g cs') g t cs':=setRow_heap _ _ _ _ _ _ h
theorem infoIns:(Try.prog.info? 28).map (fun i=>(i.zero,i.size,i.bytes))=some (some (.agg #[.int .u8 0,.int .u8 0,.int .u8 0,.int .u8 0,.int .i64 0]),5,16):=by kernel_rfl
def IsRow (w:World)(g k:Nat):Prop:=∃t cs,Blk w g t cs∧cs.size=k
section
variable {d:Option Tmp} {x y:Operand} {ty:TypeId} {pos:String} {after:Array Edge} {guard:Option (Nat×Bool)} {a:Act} {w:World} {K:Act→World→Prop} {Q:Exit→Act→World→Prop}
end
structure Rd where
 size:Nat
 A:Option Addr
 n:Nat
 xs:List Value
structure Bk where
 g:Nat
 t:TypeId
 cs:Array Value
structure AW (w:World) (L:List Bk) (R:List Rd) (W:World):Prop where
 b:Below w.heap.size w W
 l:∀e∈L,Blk W e.g e.t e.cs
 r:∀e∈R,xi_ W W.heap.size e.size e.A e.n e.xs
section
variable {w W W':World} {L:List Bk} {R:List Rd}
theorem AW.start (w:World):AW w [] [⟨1,none,0,[]⟩,⟨3,none,0,[]⟩] w:=
 ⟨Below.refl _ _,by simp,fun e he=>by
  simp only[List.mem_cons,List.not_mem_nil,or_false]at he
  rcases he with rfl|rfl<;>exact xi_.none_⟩
theorem AW.drew (h:AW w L R W):AW w L R W.drew:=⟨h.b.drew,h.l,h.r⟩
theorem AW.call (h:AW w L R W)(hb:Below W.heap.size W W'):AW w L R W':=
 ⟨h.b.trans (hb.mono h.b.size),fun e he=>(h.l e he).below hb (h.l e he).lt,fun e he=>((h.r e he).below hb).more hb.size⟩
theorem AW.alloc (h:AW w L R W)(o:Obj):AW w L R (W.alloc o):=
 ⟨h.b.alloc h.b.size _,fun e he=>(h.l e he).alloc _,fun e he=>((h.r e he).alloc (Nat.le_refl _) o).more (by simp)⟩
theorem AW.put (h:AW w L R W)(t:TypeId)(cs:Array Value):AW w (⟨W.heap.size,t,cs⟩ :: L) R (W.alloc (.cells cs t)):=
 ⟨(h.alloc _).b,fun e he=>by
  rcases List.mem_cons.1 he with rfl|he
  ·exact Blk.new _ _ _
  ·exact(h.alloc _).l e he,(h.alloc _).r⟩
theorem AW.read (h:AW w L R W){e:Rd}(he:xi_ W W.heap.size e.size e.A e.n e.xs):AW w L (e::R) W:=
 ⟨h.b,h.l,fun x hx=>by
  rcases List.mem_cons.1 hx with rfl|hx
  ·exact he
  ·exact h.r x hx⟩
theorem AW.array (h:AW w L R W)(t:TypeId)(cs:Array Value)(k n:Nat)(hl:cs.size=n*k):AW w L (⟨k,some ⟨W.heap.size,0,none⟩,n,cs.toList⟩ :: R) (W.alloc (.cells cs t)):=
 (h.alloc _).read (reads_new W t cs k n _ _ rfl (by simp) hl)
theorem AW.less (h:AW w L R W){L':List Bk}{R':List Rd}(hl:L' ⊆ L)(hr:R' ⊆ R):AW w L' R' W:=⟨h.b,fun e he=>h.l e (hl he),fun e he=>h.r e (hr he)⟩
theorem IsRow.below {g k:Nat}(h:IsRow W g k)(hb:Below W.heap.size W W'):IsRow W' g k:=by
 obtain⟨t,cs,hB,hk⟩:=h
 exact⟨t,cs,hB.below hb hB.lt,hk⟩
theorem xi_.call {k n:Nat}{A:Option Addr}{xs:List Value}(h:xi_ W W.heap.size k A n xs)(hb:Below W.heap.size W W'):xi_ W' W'.heap.size k A n xs:=(h.below hb).more hb.size
end
end Go.Proofs.Ytmljmabbopkpiaa
end
section
namespace Go.Proofs.Ytmljmabbopkpiaa
open Go.ChangeShapes Go.WideShapes Go.ChangeAt Go.RowKit Go.Deep
namespace Vm
theorem law_of_lit17 {f:FuncId}{args:List SV}{L0 L1:List HB}{W:World}{β : Env}(H:zz_ Try.prog f args L0 (.bool true) L1)(R:Rep W (fun _=>False) β (hp L0) W) :
  Calls Try.prog f (denL β args).toArray W fun e W'=>e=.returned (.bool true)∧Below W.heap.size W W':=
 (H W _ β W R).mono fun e W' ⟨β',_,R',_,he⟩=>⟨he,R'.os,R'.tape,R'.output,R'.size,fun k hk=>R'.frame k hk id⟩
end Vm
end Go.Proofs.Ytmljmabbopkpiaa
end
section
namespace Go.Proofs.Ytmljmabbopkpiaa.Vm
open Go.RowKit
section
variable {P:Program} {T:Tab} {C:FuncId→Option y4_} {w0:World} {M:Nat→Prop} {E:Env} {n0 N n:Nat} {D:List Deferred} {φ φ2 φ':Fr} {L L2 L':List HB} {Q:Exit→Act→World→Prop} {ro:Option Nat} {K:Act→World→Prop}
theorem At.runEnd (hC:∀f S,C f=some S→zm_ P f S)(hT:TabOk P T){ops:Array Oper}{k len:Nat}{l:List Oper}{c:Prop}{rs:List Rc}(hd:noDefer ops.toList=true)(hl:(ops.toList.drop k).take len=l)(hlen:l.length=len)(hr:runR T C N ops.toList φ L l=some (c,rs,φ',L'))(hc:c)
  (h:At w0 M E n0 N D φ' L' (Q .normal)):At w0 M E n0 N D φ L (wpOpsIn (FR ro) n P ops Q (List.range' k len)):=by
 have:=At.run (ro:=ro) (n:=n) (rest:=[]) hC hT hd hl hlen hr hc h
 rwa [List.append_nil]at this
theorem At.code {c:Code}(h:WF ro n P c w0 M E n0 N D φ L Q):At w0 M E n0 N D φ L (c.wpIn (FR ro) n P Q):=h
theorem At.thenNormal (h:At w0 M E n0 N D φ L K):At w0 M E n0 N D φ L (Exit.then K Q .normal):=h
theorem At.thenRet (h:At w0 M E n0 N D φ L (Q .ret)):At w0 M E n0 N D φ L (Exit.then K Q .ret):=h
theorem At.thenExit {j:Nat}(h:At w0 M E n0 N D φ L (Q (.exit j))):At w0 M E n0 N D φ L (Exit.then K Q (.exit j)):=h
theorem At.thenGoto {j:Nat}(h:At w0 M E n0 N D φ L (Q (.goto j))):At w0 M E n0 N D φ L (Exit.then K Q (.goto j)):=h
theorem At.inNormal {id:Nat}(h:At w0 M E n0 N D φ L (Q .normal)):At w0 M E n0 N D φ L (Exit.inBlock id Q .normal):=h
theorem At.inRet {id:Nat}(h:At w0 M E n0 N D φ L (Q .ret)):At w0 M E n0 N D φ L (Exit.inBlock id Q .ret):=h
theorem At.inGoto {id j:Nat}(h:At w0 M E n0 N D φ L (Q (.goto j))):At w0 M E n0 N D φ L (Exit.inBlock id Q (.goto j)):=h
theorem At.inHit {id:Nat}(h:At w0 M E n0 N D φ L (Q .normal)):At w0 M E n0 N D φ L (Exit.inBlock id Q (.exit id)):=fun a w hS=>by
 show (if id=id then Q .normal a w else Q (.exit id) a w)
 rw[if_pos rfl]
 exact h a w hS
theorem At.inMiss {id j:Nat}(hn:Nat.beq j id=false)(h:At w0 M E n0 N D φ L (Q (.exit j))):At w0 M E n0 N D φ L (Exit.inBlock id Q (.exit j)):=fun a w hS=>by
 show (if j=id then Q .normal a w else Q (.exit j) a w)
 rw[if_neg (fun e=>by rw[e]at hn;simp at hn)]
 exact h a w hS
theorem At.noGotoNormal (h:At w0 M E n0 N D φ L (Q .normal)):At w0 M E n0 N D φ L (Exit.noGoto Q .normal):=h
theorem At.noGotoRet (h:At w0 M E n0 N D φ L (Q .ret)):At w0 M E n0 N D φ L (Exit.noGoto Q .ret):=h
theorem At.noGotoExit {j:Nat}(h:At w0 M E n0 N D φ L (Q (.exit j))):At w0 M E n0 N D φ L (Exit.noGoto Q (.exit j)):=h
theorem WF.scope {c:Code}(h:WF none n P c w0 M E n0 N D φ L (Exit.noGoto Q)):WF none n P (.scope c) w0 M E n0 N D φ L Q:=fun a w hS=>by
 have h1:c.wp P (Exit.noGoto Q) a w:=wpIn_wide.1 (h a w hS)
 exact wpIn_wide.2 (wp_scope_straight h1)
theorem WF.seqJoin {α : Type}(p:α→Prop)(φi:α→Fr)(Li:α→List HB){x y:Code}(hx:WF ro n P x w0 M E n0 N D φ L (Exit.then (fun a w=>∃z,p z∧St w0 M E n0 N D (φi z) (Li z) a w) Q))(hy:∀z,p z→WF ro n P y w0 M E n0 N D (φi z) (Li z) Q):WF ro n P (.seq x y) w0 M E n0 N D φ L Q:=fun a w hS=>by
 refine wpIn_seq (wpIn_mono (hx a w hS) fun e a' w' hq=>?_)
 cases e<;>try exact hq
 obtain⟨z,hz,hS'⟩:=hq
 exact hy z hz a' w' hS'
theorem At.join {α : Type}{p:α→Prop}{φi:α→Fr}{Li:α→List HB}(z:α)(hz:p z)(hφ : SubF φ (φi z))(hL:LessL L (Li z))(h0:hp (Li z) 0=.gone)(hs:x2_ (hp (Li z)) (Li z))(hf:xe_ (hp (Li z)) (φi z))(hb:bornTo n0 (Li z)=true):At w0 M E n0 N D φ L (fun a w=>∃z,p z∧St w0 M E n0 N D (φi z) (Li z) a w):=
 fun a w hS=>⟨z,hz,hS.sub hφ hL h0 hs hf hb⟩
open Classical in
theorem WF.loop0 {α : Type}(p:α→Prop)(φi:α→Fr)(Li:α→List HB)(μ : α→Nat){c:Code}(x0:α)(h0:p x0)
  (step:∀x,p x→WF ro n P c w0 M E n0 N D (φi x) (Li x) (Exit.then (fun a w=>∃y,(p y∧μ y < μ x)∧St w0 M E n0 N D (φi y) (Li y) a w) Q)):WF ro n P (.loop c) w0 M E n0 N D (φi x0) (Li x0) Q:=by
 intro a w hS
 let I:Act→World→Prop:=fun a w=>∃x,p x∧St w0 M E n0 N D (φi x) (Li x) a w
 let pm:Act→World→Nat→Prop:=fun a w k=>∃x,p x∧St w0 M E n0 N D (φi x) (Li x) a w∧μ x=k
 have hex:∀a w,I a w→∃k,pm a w k:=fun a w ⟨x,h1,h2⟩=>⟨μ x,x,h1,h2,rfl⟩
 let m:Act→World→Nat:=fun a w=>if h:I a w then Classical.choose (least (hex a w h))else 0
 have hm:∀a w (h:I a w),pm a w (m a w)∧∀k,pm a w k→m a w≤k:=fun a w h=>by
  have:=Classical.choose_spec (least (hex a w h))
  simp only[m,h,dif_pos]
  exact this
 refine wpIn_loop I m ⟨x0,h0,hS⟩ fun a w hI=>?_
 obtain⟨⟨x,hx,hSx,hμ⟩,hmin⟩:=hm a w hI
 refine wpIn_mono (step x hx a w hSx) fun e a' w' hq=>?_
 cases e<;>try exact hq
 obtain⟨y,⟨hy,hlt⟩,hSy⟩:=hq
 refine⟨⟨y,hy,hSy⟩,?_⟩
 have:=(hm a' w' ⟨y,hy,hSy⟩).2 (μ y) ⟨y,hy,hSy,rfl⟩
 omega
theorem WF.loopAt {α : Type}(p:α→Prop)(φi:α→Fr)(Li:α→List HB)(μ : α→Nat){c:Code}(x0:α)(h0:p x0)
  (hφ : SubF φ (φi x0)) (hL:LessL L (Li x0)) (hz:hp (Li x0) 0=.gone) (hs:x2_ (hp (Li x0)) (Li x0)) (hf:xe_ (hp (Li x0)) (φi x0)) (hb:bornTo n0 (Li x0)=true)
  (step:∀x,p x→WF ro n P c w0 M E n0 N D (φi x) (Li x) (Exit.then (fun a w=>∃y,(p y∧μ y < μ x)∧St w0 M E n0 N D (φi y) (Li y) a w) Q)):WF ro n P (.loop c) w0 M E n0 N D φ L Q:=
 WF.sub hφ hL hz hs hf hb (WF.loop0 p φi Li μ x0 h0 step)
theorem At.next {α : Type}{p:α→Prop}{φi:α→Fr}{Li:α→List HB}(y:α)(hy:p y)(hφ : SubF φ (φi y))(hL:LessL L (Li y))(h0:hp (Li y) 0=.gone)(hs:x2_ (hp (Li y)) (Li y))(hf:xe_ (hp (Li y)) (φi y))(hb:bornTo n0 (Li y)=true):At w0 M E n0 N D φ L (fun a w=>∃y,p y∧St w0 M E n0 N D (φi y) (Li y) a w):=
 fun a w hS=>⟨y,hy,hS.sub hφ hL h0 hs hf hb⟩
theorem At.endsRet (hT:TabOk P T){fn:Func}{c:Prop}{vs:List SV}{v:SV}{rs:List ResultVar}{L0:List HB}{w1:World}{M1:Nat→Prop}{D1:List Deferred}(A:Anc w0 M [] w1 M1 D1)(hro:RoOk w0 M E L0)(hL0:L0.length≤n0)(hrs:fn.results.toList=rs)(hr:resV T φ (hp L) rs=some (c,vs))(hc:c)(hL:LessL L L2)(h0:hp L2 0=.gone)(hs:x2_ (hp L2) L2)(hsub:RoSub L L0)(hv:∀β,(resS vs).den β = v.den β)(hst:zb_ (hp L2) v) :
  At w1 M1 E n0 N D1 φ L (EndsM n P fn w0 M E n0 v L2 .ret):=At.endsM hT A hro hL0 hrs hr hc hL h0 hs hsub hv hst
end
end Go.Proofs.Ytmljmabbopkpiaa.Vm
end
section
namespace Go.Proofs.Ytmljmabbopkpiaa.Vm
open Go.RowKit
set_option linter.defProp false
def J22:=@WF.region
def J23:=@WF.drawn
def J24:=fun (_:(0:Nat)=0)=>@WF.cond
theorem hy_ {P:Prop}(h:P:=by exfalso;omega):P:=h
def JH:=And.intro @Bool.not_eq_true' (And.intro @Bool.not_eq_false' (And.intro @decide_eq_true_eq (And.intro @decide_eq_false_iff_not (And.intro @Bool.and_eq_true @Bool.or_eq_true))))
def JP:=And.intro @Int.cast_ofNat_Int (And.intro @ofV_m1 @ofV_min)
def JS:=And.intro @and_self (And.intro @true_and (And.intro @and_true (And.intro @false_implies (And.intro @true_implies (And.intro @Bool.not_eq_true' @imp_self)))))
theorem fol:Try.prog.follows .mixedOrders=true:=by kernel_rfl
def c0:FuncId→Option y4_:=xz_ []
theorem zl_:∀f S,c0 f=some S→zm_ Try.prog f S:=fun f S h=>by cases h
class Ctl (Q:Prop) (P:outParam Prop):Prop where
 h:P→Q
class NeB (j k:Nat):Prop where
 h:Nat.beq j k=false
instance {k:Nat}:NeB 0 (k+1):=⟨rfl⟩
instance {k:Nat}:NeB (k+1) 0:=⟨rfl⟩
instance {j k:Nat}[h:NeB j k]:NeB (j+1) (k+1):=⟨h.h⟩
section
variable {P:Program} {w0:World} {M:Nat→Prop} {E:Env} {n0 N n:Nat} {D:List Deferred} {φ : Fr} {L:List HB} {Q:Exit→Act→World→Prop} {ro:Option Nat} {K:Act→World→Prop}
instance {x y:Code}:Ctl (WF ro n P (.seq x y) w0 M E n0 N D φ L Q) (WF ro n P x w0 M E n0 N D φ L (Exit.then (y.wpIn (FR ro) n P Q) Q)):=⟨WF.seq⟩
instance {c:Code}:Ctl (At w0 M E n0 N D φ L (c.wpIn (FR ro) n P Q)) (WF ro n P c w0 M E n0 N D φ L Q):=⟨At.code⟩
instance:Ctl (At w0 M E n0 N D φ L (Exit.then K Q .normal)) (At w0 M E n0 N D φ L K):=⟨At.thenNormal⟩
instance:Ctl (At w0 M E n0 N D φ L (Exit.then K Q .ret)) (At w0 M E n0 N D φ L (Q .ret)):=⟨At.thenRet⟩
instance {j:Nat}:Ctl (At w0 M E n0 N D φ L (Exit.then K Q (.exit j))) (At w0 M E n0 N D φ L (Q (.exit j))):=⟨At.thenExit⟩
instance {j:Nat}:Ctl (At w0 M E n0 N D φ L (Exit.then K Q (.goto j))) (At w0 M E n0 N D φ L (Q (.goto j))):=⟨At.thenGoto⟩
instance {id:Nat}:Ctl (At w0 M E n0 N D φ L (Exit.inBlock id Q .normal)) (At w0 M E n0 N D φ L (Q .normal)):=⟨At.inNormal⟩
instance {id:Nat}:Ctl (At w0 M E n0 N D φ L (Exit.inBlock id Q .ret)) (At w0 M E n0 N D φ L (Q .ret)):=⟨At.inRet⟩
instance {id j:Nat}:Ctl (At w0 M E n0 N D φ L (Exit.inBlock id Q (.goto j))) (At w0 M E n0 N D φ L (Q (.goto j))):=⟨At.inGoto⟩
instance {id:Nat}:Ctl (At w0 M E n0 N D φ L (Exit.inBlock id Q (.exit id))) (At w0 M E n0 N D φ L (Q .normal)):=⟨At.inHit⟩
instance:Ctl (At w0 M E n0 N D φ L (Exit.noGoto Q .normal)) (At w0 M E n0 N D φ L (Q .normal)):=⟨At.noGotoNormal⟩
instance:Ctl (At w0 M E n0 N D φ L (Exit.noGoto Q .ret)) (At w0 M E n0 N D φ L (Q .ret)):=⟨At.noGotoRet⟩
instance {j:Nat}:Ctl (At w0 M E n0 N D φ L (Exit.noGoto Q (.exit j))) (At w0 M E n0 N D φ L (Q (.exit j))):=⟨At.noGotoExit⟩
instance:Ctl (WF ro n P .skip w0 M E n0 N D φ L Q) (At w0 M E n0 N D φ L (Q .normal)):=⟨WF.skip⟩
instance:Ctl (WF ro n P .ret w0 M E n0 N D φ L Q) (At w0 M E n0 N D φ L (Q .ret)):=⟨WF.ret⟩
instance {id:Nat}:Ctl (WF ro n P (.exit id) w0 M E n0 N D φ L Q) (At w0 M E n0 N D φ L (Q (.exit id))):=⟨WF.exit⟩
instance {id:Nat}:Ctl (WF ro n P (.goto id) w0 M E n0 N D φ L Q) (At w0 M E n0 N D φ L (Q (.goto id))):=⟨WF.goto⟩
instance {id:Nat}:Ctl (WF ro n P (.label id) w0 M E n0 N D φ L Q) (At w0 M E n0 N D φ L (Q .normal)):=⟨WF.label⟩
instance {id:Nat}{c:Code}:Ctl (WF ro n P (.block id c) w0 M E n0 N D φ L Q) (WF ro n P c w0 M E n0 N D φ L (Exit.inBlock id Q)):=⟨WF.block⟩
instance {c:Code}:Ctl (WF none n P (.scope c) w0 M E n0 N D φ L Q) (WF none n P c w0 M E n0 N D φ L (Exit.noGoto Q)):=⟨WF.scope⟩
instance {id j:Nat}[h:NeB j id]:Ctl (At w0 M E n0 N D φ L (Exit.inBlock id Q (.exit j))) (At w0 M E n0 N D φ L (Q (.exit j))):=⟨At.inMiss h.h⟩
end
end Go.Proofs.Ytmljmabbopkpiaa.Vm
end
section
namespace Go.Proofs.Ytmljmabbopkpiaa.Vm
open Go.RowKit
def rhoL (l:List Nat)(m:Nat):Nat→Nat:=fun i=>if i < l.length then l.getD i 0 else m+(i - l.length)
def noMine:List HB→Bool
 | []=>true
 | b::l=>!b.mine && noMine l
theorem noMine_spec:∀{L:List HB},noMine L=true→∀i,(hp L i).mine=false
 | [],_,i=>by unfold hp;simp[HB.mine]
 | b::l,h,0=>by
  simp only[noMine,Bool.and_eq_true,Bool.not_eq_true']at h
  exact h.1
 | b::l,h,i+1=>by
  simp only[noMine,Bool.and_eq_true]at h
  have:=noMine_spec h.2 i
  unfold hp at this ⊢
  simpa using this
def FitL (ρ : Nat→Nat)(h:HM):List HB→List Nat→Prop
 | [],_=>True
 | b::l,n=>match n with
  | j::n=>Fit ρ b (h j)∧FitL ρ h l n
  | []=>False
theorem fitL_get {ρ : Nat→Nat}{h:HM}:∀{L:List HB} {l:List Nat},FitL ρ h L l→∀i,i < L.length→Fit ρ (hp L i) (h (l.getD i 0))
 | [],l,_,i,hi=>by simp at hi
 | b::L,[],hf,_,_=>by exact hf.elim
 | b::L,j::l,hf,0,_=>hf.1
 | b::L,j::l,hf,i+1,hi=>by
  have:=fitL_get hf.2 i (by simpa using hi)
  unfold hp at this ⊢
  simpa using this
def hG (n0:Nat)(L0 L1:List HB):HM:=fun i=>if i < n0 then hp L0 i else hp L1 i
theorem laid_ro {L0 L1:List HB}{h:HM}{l:List Nat}{m:Nat}{v:SV}(hlen:l.length=L0.length)(hpos:0 < L0.length)(h00:l.getD 0 0=0)(hz:hp L0 0=.gone)(hno:noMine L0=true)(hfit:FitL (rhoL l m) h L0 l)(hm:∀i,m≤i→i < m+(L1.length - L0.length)→h i=.dead)(hle:L0.length≤L1.length)
  (hst0:x2_ (hp L0) L0) (hstb:∀j,(h j).stable h) (hnew:NewL (hG L0.length L0 L1) (L1.drop L0.length)) (hv:zb_ (hG L0.length L0 L1) v) :
  Laid L0 L1 h (wrs h (newB (rhoL l m) m (L1.drop L0.length))) (rhoL l m) m v:=by
 obtain⟨k,hk⟩:∃k,k=L1.length - L0.length:=⟨_,rfl⟩
 have hdl:(L1.drop L0.length).length=k:=by rw[List.length_drop,hk]
 have hrl:∀i,i < L0.length→rhoL l m i=l.getD i 0:=fun i hi=>if_pos (by omega)
 have hrn:∀i,L0.length≤i→rhoL l m i=m+(i - L0.length):=fun i hi=>by
  unfold rhoL;rw[if_neg (by omega),hlen]
 have hmin:=noMine_spec hno
 have hget:∀j,m≤j→(L1.drop L0.length).getD (j - m) .dead=hp L1 (L0.length+(j - m)):=fun j hj=>by
  unfold hp
  rw[List.getD_eq_getElem?_getD,List.getD_eq_getElem?_getD,List.getElem?_drop]
 have hnewj:∀j,m≤j→j < m+k→wrs h (newB (rhoL l m) m (L1.drop L0.length)) j=(hp L1 (L0.length+(j - m))).ren (rhoL l m):=fun j h1 h3=>by
  rw[wrs_newB,if_pos ⟨h1,by omega⟩,hget j h1]
 have holdj:∀j,¬(m≤j∧j < m+k)→wrs h (newB (rhoL l m) m (L1.drop L0.length)) j=h j:=fun j hj=>by
  rw[wrs_newB,if_neg (by rw[hdl];exact hj)]
 have bornold:∀j,(h j).born=true→¬(m≤j∧j < m+k):=fun j hj hc=>by
  rw[hm j hc.1 (by omega)]at hj;cases hj
 have more:∀i,(h i).born=true→(wrs h (newB (rhoL l m) m (L1.drop L0.length)) i).born=true:=fun i hi=>by rw[holdj i (bornold i hi)];exact hi
 have hfit':∀i,i < L0.length→Fit (rhoL l m) (hp L0 i) (h (rhoL l m i)):=fun i hi=>by rw[hrl i hi];exact fitL_get hfit i hi
 have moreG:∀i,(hG L0.length L0 L1 i).born=true→(wrs h (newB (rhoL l m) m (L1.drop L0.length)) (rhoL l m i)).born=true:=fun i hi=>by
  unfold hG at hi
  split at hi
  ·rename_i hlt
   exact more _ (hfit' i hlt).born
  ·rename_i hge
   have hlt:i < L1.length:=by
    rcases Nat.lt_or_ge i L1.length with h'|h'
    ·exact h'
    ·rw[xy_ h']at hi;cases hi
   rw[hrn i (by omega),hnewj _ (by omega) (by omega),show L0.length+(m+(i - L0.length) - m)=i by omega]
   cases hh:hp L1 i<;>rw[hh]at hi<;>first|rfl |(cases hi;done)
 have hnewS:=newL_spec hnew
 refine { z:=by rw[hrl 0 hpos,h00],z0:=hz,new:=fun i hi=>hrn i hi,pre:=hfit',inj:=fun i j hi hj hne hmi=>absurd hmi (by rw[hmin i];exact Bool.false_ne_true),img:=fun i hi hmi=>absurd hmi (by rw[hmin i];exact Bool.false_ne_true),old:=fun j hj _=>holdj j (bornold j hj),fresh:=fun j hj=>?_,un:=fun i hi hb=>?_,st0:=stableH_spec hst0,st2:=fun j=>?_,stv:=hv.ren moreG }
 ·by_cases hc:m≤j∧j < m+k
  ·exact .inr ⟨hc.1,hnewj j hc.1 hc.2,(hnewS _ (by omega)).2⟩
  ·left
   rw[holdj j hc]
   cases hh:h j<;>rw[hh]at hj<;>first|rfl |(cases hj;done)
 ·have hlt:i < L1.length:=by
   rcases Nat.lt_or_ge i L1.length with h'|h'
   ·exact h'
   ·rw[xy_ h']at hb;cases hb
  rw[hrn i hi,hm _ (by omega) (by omega)]
  rfl
 ·by_cases hc:m≤j∧j < m+k
  ·rw[hnewj j hc.1 hc.2]
   have hs:=(hnewS (L0.length+(j - m)) (by omega)).1
   cases hh:hp L1 (L0.length+(j - m))with
   | own t u ex=>rw[hh]at hs;exact zb_.ren moreG hs
   | ro u=>rw[hh]at hs;exact zb_.ren moreG hs
   | raw o=>trivial
   | gone=>trivial
   | dead=>trivial
  ·rw[holdj j hc]
   have:(h j).stable h:=hstb j
   exact HB.stable_more this more
theorem callG {P:Program}{f:FuncId}{args:List SV}{L0 L1:List HB}{v:SV}{w0 w:World}{M:Nat→Prop}{β : Env}{h h':HM}{m:Nat}(l:List Nat)(H:zz_ P f args L0 v L1)(R:Rep w0 M β h' w)(hlen:l.length=L0.length)(hpos:0 < L0.length)(h00:l.getD 0 0=0)(hz:hp L0 0=.gone)(hno:noMine L0=true)(hfit:FitL (rhoL l m) h' L0 l)
  (hm:∀i,m≤i→h i=.dead) (hwr:∀p∈newB (rhoL l m) m (L1.drop L0.length),h' p.1=h p.1) (hle:L0.length≤L1.length)
  (hst0:x2_ (hp L0) L0) (hsta:zh_ (hp L0) args) (hnew:NewL (hG L0.length L0 L1) (L1.drop L0.length)) (hv:zb_ (hG L0.length L0 L1) v) :
  Calls P f (denL β (renL (rhoL l m) args)).toArray w fun e w'=>∃β',(∀i,(h' i).born=true→β i = β' i)∧Rep w0 M β' (wrs h' (newB (rhoL l m) m (L1.drop L0.length))) w'∧zb_ (wrs h' (newB (rhoL l m) m (L1.drop L0.length))) (v.ren (rhoL l m))∧e=.returned ((v.ren (rhoL l m)).den β'):=
 call_lit H R (laid_ro hlen hpos h00 hz hno hfit (fun i hi hlt=>by
  obtain⟨b,hb⟩:=newB_mem (ρ:=rhoL l m) (l:=L1.drop L0.length) hi (by rw[List.length_drop];exact hlt)
  exact(hwr _ hb).trans (hm i hi)) hle hst0 R.st hnew hv) hsta
def sg (l:List Nat):Nat→Nat:=fun i=>l.getD i 0
def PickL (σ : Nat→Nat)(h:HM):List HB→List Nat→Prop
 | [],_=>True
 | b::l,n=>match n with
  | j::n=>(b=.gone∨Less (h j) (b.ren σ))∧PickL σ h l n
  | []=>False
theorem pickL_get {σ : Nat→Nat}{h:HM}:∀{L:List HB} {l:List Nat},PickL σ h L l→∀i,i < L.length→hp L i=.gone∨Less (h (l.getD i 0)) ((hp L i).ren σ)
 | [],l,_,i,hi=>by simp at hi
 | b::L,[],hf,_,_=>by exact hf.elim
 | b::L,j::l,hf,0,_=>hf.1
 | b::L,j::l,hf,i+1,hi=>by
  have:=pickL_get hf.2 i (by simpa using hi)
  unfold hp at this ⊢
  simpa using this
def injL:List HB→List Nat→List Nat→Bool
 | [],_,_=>true
 | b::L,l,seen=>match l with
  | j::l=>bif b.mine then !memN j seen && injL L l (j::seen)else injL L l seen
  | []=>false
theorem injL_seen:∀{L:List HB} {l seen:List Nat},injL L l seen=true→∀i,i < L.length→(hp L i).mine=true→l.getD i 0 ∉ seen
 | [],l,seen,_,i,hi,_=>by simp at hi
 | b::L,[],seen,h,_,_,_=>by cases h
 | b::L,j::l,seen,h,i,hi,hm=>by
  simp only[injL]at h
  cases i with
  | zero=>
   have hb:b.mine=true:=hm
   rw[hb]at h
   simp only[cond_true,Bool.and_eq_true,Bool.not_eq_true']at h
   intro hc
   have:=memN_iff.2 hc
   simp only[List.getD_cons_zero]at this
   rw[h.1]at this
   cases this
  | succ i=>
   have hm':(hp L i).mine=true:=by unfold hp at hm ⊢;simpa using hm
   rw[List.getD_cons_succ]
   cases hb:b.mine with
   | false=>rw[hb]at h;exact injL_seen h i (by simpa using hi) hm'
   | true=>
    rw[hb]at h
    simp only[cond_true,Bool.and_eq_true]at h
    exact fun hc=>injL_seen h.2 i (by simpa using hi) hm' (.tail _ hc)
theorem injL_spec:∀{L:List HB} {l seen:List Nat},injL L l seen=true→∀i j,i < j→j < L.length→(hp L i).mine=true→(hp L j).mine=true→l.getD i 0≠l.getD j 0
 | [],l,seen,_,i,j,_,hj,_,_=>by simp at hj
 | b::L,[],seen,h,_,_,_,_,_,_=>by cases h
 | b::L,k::l,seen,h,i,j,hij,hj,hi,hjm=>by
  simp only[injL]at h
  obtain⟨j,rfl⟩:∃j',j=j'+1:=⟨j - 1,by omega⟩
  have hj':j < L.length:=by simpa using hj
  have hjm':(hp L j).mine=true:=by unfold hp at hjm ⊢;simpa using hjm
  rw[List.getD_cons_succ]
  cases i with
  | zero=>
   have hb:b.mine=true:=hi
   rw[hb]at h
   simp only[cond_true,Bool.and_eq_true]at h
   rw[List.getD_cons_zero]
   exact fun e=>injL_seen h.2 j hj' hjm' (by rw[←e];exact .head _)
  | succ i=>
   have hi':(hp L i).mine=true:=by unfold hp at hi ⊢;simpa using hi
   rw[List.getD_cons_succ]
   cases hb:b.mine with
   | false=>rw[hb]at h;exact injL_spec h i j (by omega) hj' hi' hjm'
   | true=>
    rw[hb]at h
    simp only[cond_true,Bool.and_eq_true]at h
    exact injL_spec h.2 i j (by omega) hj' hi' hjm'
theorem Rep.pick {w0 w:World}{M:Nat→Prop}{β : Env}{h:HM}{L:List HB}{l:List Nat}(R:Rep w0 M β h w)(h0:l.getD 0 0=0)(hz:hp L 0=.gone)(hp_:PickL (sg l) h L l)(hi:injL L l []=true)(hs:x2_ (hp L) L):Rep w0 M (fun i=>β (sg l i)) (hp L) w:=by
 have get:∀i,(hp L i)=.dead∨hp L i=.gone∨(i < L.length∧Less (h (sg l i)) ((hp L i).ren (sg l))):=fun i=>by
  rcases Nat.lt_or_ge i L.length with hlt|hge
  ·rcases pickL_get hp_ i hlt with e|e
   ·exact .inr (.inl e)
   ·exact .inr (.inr ⟨hlt,e⟩)
  ·exact .inl (xy_ hge)
 have mine:∀i,(hp L i).mine=true→i < L.length∧(h (sg l i)).mine=true:=fun i hm=>by
  rcases get i with e|e|⟨hlt,e⟩
  ·rw[e]at hm;cases hm
  ·rw[e]at hm;cases hm
  ·refine⟨hlt,less_mine e ?_⟩
   cases hh:hp L i<;>rw[hh]at hm<;>first|rfl |(cases hm;done)
 refine { os:=R.os,tape:=R.tape,output:=R.output,size:=R.size,frame:=R.frame,nil:=?_,nil0:=hz,st:=stableH_spec hs,blk:=fun i=>?_,own:=fun i a hm ha=>R.own _ a (mine i hm).2 ha,ro:=fun i v a hv ha hzz=>?_,dist:=fun i j ai aj hne hmi hmj hai haj=>?_,lt:=fun i a hm ha=>R.lt _ a (mine i hm).2 ha }
 ·show β (l.getD 0 0)=_
  rw[h0];exact R.nil
 ·rcases get i with e|e|⟨hlt,e⟩
  ·rw[e];trivial
  ·rw[e];trivial
  ·have hB:=R.blk (sg l i)
   exact holds_unren (β:=fun i=>β (sg l i)) (β':=β) (h:=hp L) (ρ:=sg l) (fun _ _=>rfl) (stableH_spec hs i) rfl (holds_less e hB)
 ·rcases get i with e|e|⟨hlt,e⟩
  ·rw[e]at hv;cases hv
  ·rw[e]at hv;cases hv
  ·rw[hv]at e
   exact R.ro _ (v.ren (sg l)) a (less_ro e) ha (by rw[size_ren];exact hzz)
 ·have h1:=mine i hmi
  have h2:=mine j hmj
  refine R.dist _ _ ai aj ?_ h1.2 h2.2 hai haj
  rcases Nat.lt_or_ge i j with hlt|hge
  ·exact injL_spec hi i j hlt h2.1 hmi hmj
  ·exact fun e=>injL_spec hi j i (by omega) h1.1 hmj hmi e.symm
def idTo (n:Nat)(l:List Nat):Bool:=(List.range n).all fun i=>Nat.beq (l.getD i 0) i
section
variable {P:Program} {T:Tab} {w0 w1:World} {M M1:Nat→Prop} {E:Env} {n0 N n:Nat} {D1:List Deferred} {φ : Fr} {L L2:List HB}
theorem At.endsPick (l:List Nat)(hT:TabOk P T){fn:Func}{c:Prop}{vs:List SV}{v:SV}{rs:List ResultVar}{L0:List HB}(A:Anc w0 M [] w1 M1 D1)(hro:RoOk w0 M E L0)(hL0:L0.length≤n0)(hrs:fn.results.toList=rs)(hr:resV T φ (hp L) rs=some (c,vs))(hc:c)(h00:l.getD 0 0=0)(hz:hp L2 0=.gone)(hid:idTo n0 l=true)(hpk:PickL (sg l) (hp L) L2 l)(hinj:injL L2 l []=true)(hs:x2_ (hp L2) L2)(hsub:RoSub L L0)(hv:∀β,(resS vs).den β =(v.ren (sg l)).den β)(hst:zb_ (hp L2) v) :
  At w1 M1 E n0 N D1 φ L (EndsM n P fn w0 M E n0 v L2 .ret):=fun a w hS=>by
 obtain⟨⟨β,hE,R,F⟩,hbn,_,hd⟩:=hS
 subst hrs
 have R0:Rep w0 M β (hp L) w:=R.back A fun i u a hi ha hz=>by
  obtain⟨h1,h2⟩:=roSub_spec hsub i u hi
  exact hro i u a h1 (by rw[←hE i (Nat.lt_of_lt_of_le h2 hL0)];exact ha) hz
 obtain⟨rs,d1,n1,k1⟩:=A.marks
 simp only[EndsM,bodyPostM,hd,d1,List.append_nil]
 refine leaves_marks (β:=β) (h:=hp L) rs w R0 n1 (fun r hr=>?_) (fun w' R'=>?_)
 ·exact d16_
 ·obtain⟨q1,q2⟩:=resV_ok ⟨hT,R',F⟩ hr hc
  refine⟨_,q2,fun i=>β (sg l i),fun i hi=>?_,R'.pick h00 hz hpk hinj hs,hst,?_⟩
  ·exact d17_
  ·rw[hv]
   congr 1
   exact den_ren (h:=hp L2) (fun _ _=>rfl) hst
end
theorem hp_append1 (L:List HB)(x:HB):hp (L++[x])=upd (hp L) L.length x:=by
 funext i
 unfold hp upd
 by_cases h2:i=L.length
 ·subst h2;simp
 ·rw[if_neg h2]
  rcases Nat.lt_or_ge i L.length with h|h
  ·simp[List.getElem?_append_left h]
  ·simp[List.getElem?_eq_none (show (L++[x]).length≤i by simp;omega),List.getElem?_eq_none h]
theorem At.nil {w0:World}{M:Nat→Prop}{E:Env}{n0 N:Nat}{D:List Deferred}{φ : Fr}{L:List HB}{K:Act→World→Prop}(t:Tmp)(ty k:Nat)(f:Nat→SV)(hl:look φ t=some (.sl 0 0 [] 0 0 0 (some 0)))(hf:∀(h:HM) (q:Nat),zb_ h (f q))
  (h:At w0 M E n0 N D ((t,.sl L.length L.length [] k 0 0 none) :: φ) (L++[.own ty (.arr 0 k f) false]) K):At w0 M E n0 N D φ L K:=fun a w hS=>by
 obtain⟨⟨β,hE,R,F⟩,hbn,hsz,hd⟩:=hS
 have hm:hp L L.length=.dead:=xy_ (Nat.le_refl _)
 have R1:=nothing R (e:=ty) (k:=k) (g:=f) hm (fun q=>hf _ q)
 have hag:∀i,(hp L i).born=true→β i=setE β L.length (none,0) i:=yd_ hm
 have hborn:∀i,(hp L i).born=true→(upd (hp L) L.length (.own ty (.arr 0 k f) false) i).born=true:=fun i hi=>by
  unfold Vm.upd;split
  ·rfl
  ·exact hi
 refine h a w ⟨⟨setE β L.length (none,0),fun i hi=>(hag i (hbn i hi)).symm.trans (hE i hi),by rw[hp_append1];exact R1,fun u v hu=>?_⟩,fun i hi=>by rw[hp_append1];exact hborn i (hbn i hi),hsz,hd⟩
 rw[hp_append1]
 simp only[look]at hu
 cases hq:Nat.beq t u with
 | true=>
  rw[hq]at hu
  have:=Nat.eq_of_beq_eq_true hq
  subst this
  injection hu with hu
  subst hu
  refine⟨?_,?_⟩
  ·simp only[zb_,z1_];exact⟨rfl,rfl⟩
  ·rw[(F t _ hl).2]
   simp[SV.den,z4_,R.nil]
 | false=>
  rw[hq]at hu
  obtain⟨k1,k2⟩:=F u v hu
  exact⟨k1.more hborn,by rw[k2];exact k1.den hag⟩
end Go.Proofs.Ytmljmabbopkpiaa.Vm
end

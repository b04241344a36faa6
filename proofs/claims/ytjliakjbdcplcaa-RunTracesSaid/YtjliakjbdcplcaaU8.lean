import Derived.Test.YtjliakjbdcplcaaU7
set_option linter.unusedSimpArgs false
set_option linter.unusedVariables false
set_option maxRecDepth 100000
section
namespace Go.Proofs.Ytjliakjbdcplcaa.Vm
open Go.RowKit
section
variable {F:Fence} {n:Nat} {P:Program} {ops:Array Oper} {Q Q':Exit→Act→World→Prop}
theorem uponIn_mono2 {o:Oper}{a:Act}{K K':Act→World→Prop}(hk:∀a w,K a w→K' a w)(hp:∀ch a w,Q (.panic ch) a w→Q' (.panic ch) a w)(ho:LetsOut Q→LetsOut Q'){r:Result Next}(h:o.uponIn F n P a K Q r):o.uponIn F n P a K' Q' r:=by
 cases r with
 | ok x w'=>
  cases x with
  | value v=>exact hk _ _ h
  | skip=>exact hk _ _ h
  | defer d=>exact hk _ _ h
  | enter f args=>
   refine⟨h.1,h.2.mono fun e w'' he=>?_⟩
   cases e with
   | returned v=>exact hk _ _ he
   | panicked c=>exact hp _ _ _ he
   | outgrown=>exact ho he
  | row row args=>exact⟨h.1,h.2.mono fun v w'' he=>hk _ _ he⟩
  | round l f tmps assign body=>
   refine⟨h.1,h.2.mono fun e w'' he=>?_⟩
   cases e with
   | returned v=>exact hk _ _ he
   | panicked c=>exact hp _ _ _ he
   | outgrown=>exact ho he
  | _=>exact h
 | halt x w'=>
  cases x with
  | panic v=>exact hp _ _ _ h
  | _=>exact h
theorem wpOpsIn_append {js:List Nat}:∀{is:List Nat} {a:Act} {w:World},wpOpsIn F n P ops (Exit.then (wpOpsIn F n P ops Q js) Q) is a w→wpOpsIn F n P ops Q (is++js) a w:=by
 intro is
 induction is with
 | nil=>exact fun h=>h
 | cons i is ih=>
  intro a w h
  simp only[List.cons_append,wpOpsIn]at h ⊢
  cases ho:ops[i]? with
  | none=>simp only[ho]at h ⊢;exact ih h
  | some o=>
   simp only[ho]at h ⊢
   by_cases hw:Region.wanted o (yielded ops a.tmps)=true
   ·simp only[hw,if_true]at h ⊢
    exact⟨h.1,uponIn_mono2 (fun a w=>ih) (fun ch a w h=>h) (fun h=>h) h.2⟩
   ·simp only[hw,if_false,Bool.false_eq_true]at h ⊢
    exact⟨h.1,ih h.2⟩
end
section
variable {P:Program} {T:Tab} {C:FuncId→Option yr_} {w0:World} {M:Nat→Prop} {E:Env} {n0 N n:Nat} {D:List Deferred} {φ φ2 φ':Fr} {L L2 L':List HB} {Q:Exit→Act→World→Prop} {ro:Option Nat}
theorem At.run (hC:∀f S,C f=some S→zh_ P f S)(hT:TabOk P T){ops:Array Oper}{k len:Nat}{l:List Oper}{rest:List Nat}{c:Prop}{rs:List Rc}(hd:xa_ ops.toList=true)(hl:(ops.toList.drop k).take len=l)(hlen:l.length=len)(hr:runR T C N ops.toList φ L l=some (c,rs,φ',L'))(hc:c)
  (h:At w0 M E n0 N D φ' L' (wpOpsIn (FR ro) n P ops Q rest)):At w0 M E n0 N D φ L (wpOpsIn (FR ro) n P ops Q (List.range' k len++rest)):=fun a w hS=>by
 have h0:ops.toList.drop k=l++(ops.toList.drop k).drop len:=by rw[←hl,List.take_append_drop]
 have h1:=wpOps_seg (Q:=NormSt w0 M E n0 N D φ' L') hC hT h0 hr hc hS (fun a w h=>h)
 have h2:=wpOps_in (ro:=ro) (n:=n) hd normSt_out h1
 rw[hlen]at h2
 refine wpOpsIn_append ?_
 have mono:∀{is:List Nat} {a:Act} {w:World},wpOpsIn (FR ro) n P ops (NormSt w0 M E n0 N D φ' L') is a w→wpOpsIn (FR ro) n P ops (Exit.then (wpOpsIn (FR ro) n P ops Q rest) Q) is a w:=by
  intro is
  induction is with
  | nil=>intro a w hh;exact h a w hh
  | cons i is ih=>
   intro a w h
   simp only[wpOpsIn]at h ⊢
   cases ho:ops[i]? with
   | none=>simp only[ho]at h ⊢;exact ih h
   | some o=>
    simp only[ho]at h ⊢
    by_cases hw:Region.wanted o (yielded ops a.tmps)=true
    ·simp only[hw,if_true]at h ⊢
     exact⟨h.1,uponIn_mono2 (fun a w=>ih) (fun ch a w h=>h.elim) (fun h=>(normSt_out h).elim) h.2⟩
    ·simp only[hw,if_false,Bool.false_eq_true]at h ⊢
     exact⟨h.1,ih h.2⟩
 exact mono h2
theorem WF.split {id:Nat}{ops:Array Oper}(k m:Nat)(hsz:ops.size=k+(m+1))(h:At w0 M E n0 N D φ L (wpOpsIn (FR ro) n P ops Q (List.range' 0 k++(k::List.range' (k+1) m)))):WF ro n P (.region id ops false) w0 M E n0 N D φ L Q:=fun a w hS=>by
 refine wpIn_region ?_
 rw[List.range_eq_range',hsz,←List.range'_append,Nat.zero_add,Nat.one_mul,List.range'_succ]
 exact h a w hS
theorem At.sub {K:Act→World→Prop}(hφ : SubF φ φ2)(hL:LessL L L2)(h0:hp L2 0=.gone)(hs:yk_ (hp L2) L2)(hf:StableF (hp L2) φ2)(hb:bornTo n0 L2=true)(h:At w0 M E n0 N D φ2 L2 K):At w0 M E n0 N D φ L K:=
 fun a w hS=>h a w (hS.sub hφ hL h0 hs hf hb)
def lrec (fn:FuncId)(tmps:Array Value)(ps:Array Tmp)(asg bd:Code)(d:Nat)(st:LoopState)(pe:Option Code):Loop:={ state:=st,pending:=pe,fn,tmps,params:=ps,assign:=asg,body:=bd,defers:=d }
structure Rec (rec:LoopState→Option Code→Loop) (tmps:Array Value) (ps:Array Tmp) (asg bd:Code):Prop where
 ex:∃fn d,rec=lrec fn tmps ps asg bd d
def CF (E:Env)(n0:Nat)(tmps:Array Value)(N:Nat)(φ : Fr):Prop:=tmps.size=N∧∃L0:List HB,L0.length≤n0∧∀t v,look φ t=some v→Stable (hp L0) v∧tmps.getD t undef=v.den E
def RoundEnd (w0:World)(M:Nat→Prop)(E2:Env)(k2 id:Nat)(rec:LoopState→Option Code→Loop)(next:Bool→List HB→Prop):Exit→Act→World→Prop
 | .normal,_,w=>∃(β : Env) (L:List HB),(∀i,i < k2→β i=E2 i)∧Rep w0 M β (hp L) w∧(∀i,i < k2→(hp L i).born=true)∧hp L id=.raw (.loop (rec .busy none))∧next true (setH L id (.raw (.loop (rec .ready none))))
 | .ret,_,w=>∃(β : Env) (L:List HB),(∀i,i < k2→β i=E2 i)∧Rep w0 M β (hp L) w∧(∀i,i < k2→(hp L i).born=true)∧hp L id=.raw (.loop (rec .busy none))∧next false (setH L id (.raw (.loop (rec .done (some .ret)))))
 | .exit j,_,w=>∃(β : Env) (L:List HB),(∀i,i < k2→β i=E2 i)∧Rep w0 M β (hp L) w∧(∀i,i < k2→(hp L i).born=true)∧hp L id=.raw (.loop (rec .busy none))∧next false (setH L id (.raw (.loop (rec .done (some (.exit j))))))
 | .goto j,_,w=>∃(β : Env) (L:List HB),(∀i,i < k2→β i=E2 i)∧Rep w0 M β (hp L) w∧(∀i,i < k2→(hp L i).born=true)∧hp L id=.raw (.loop (rec .busy none))∧next false (setH L id (.raw (.loop (rec .done (some (.goto j))))))
 | _,_,_=>False
def Begins (P:Program)(w0:World)(M:Nat→Prop)(E2:Env)(k2 id:Nat)(body:Act→World→Prop)(a:Act)(w:World):Prop:=∃(β : Env) (g:Nat) (w':World),(∀i,i < k2→β i=E2 i)∧(β id).1=some ⟨g,0,none⟩∧(Instr.beginRound g).run P w=.ok () w'∧body a w'
theorem At.begins {id:Nat}{rec:LoopState→Option Code→Loop}{tmps:Array Value}{ps:Array Tmp}{asg bd:Code}{body:Act→World→Prop}(hrec:Rec rec tmps ps asg bd)(hl:hp L id=.raw (.loop (rec .ready none)))(h:At w0 M E n0 N D φ (setH L id (.raw (.loop (rec .busy none)))) body):At w0 M E n0 N D φ L (Begins P w0 M E n0 id body):=fun a w hS=>by
 obtain⟨⟨β,hE,R,F⟩,hbn,hsz,hd⟩:=hS
 obtain⟨fn,d,rfl⟩:=hrec.ex
 have hb:=R.blk id
 rw[hl]at hb
 obtain⟨g,hg,ho⟩:=hb
 refine⟨β,g,_,hE,hg,run_beginRound ho rfl,h a _ ⟨⟨β,hE,?_,fun t v hv=>?_⟩,fun i hi=>?_,hsz,hd⟩⟩
 ·rw[hp_setH]
  exact R.rawPut hl hg
 ·obtain⟨h1,h2⟩:=F t v hv
  rw[hp_setH]
  exact⟨h1.upd rfl,h2⟩
 ·rw[hp_setH]
  unfold Vm.upd
  split
  ·rfl
  ·exact hbn i hi
theorem At.roundNormal {k2 id:Nat}{rec:LoopState→Option Code→Loop}{next:Bool→List HB→Prop}(hl:hp L id=.raw (.loop (rec .busy none)))(h:next true (setH L id (.raw (.loop (rec .ready none))))):At w0 M E k2 N D φ L (RoundEnd w0 M E k2 id rec next .normal):=fun a w hS=>by
 obtain⟨⟨β,hE,R,F⟩,hbn,hsz,hd⟩:=hS
 exact⟨β,L,hE,R,hbn,hl,h⟩
theorem At.roundRet {k2 id:Nat}{rec:LoopState→Option Code→Loop}{next:Bool→List HB→Prop}(hl:hp L id=.raw (.loop (rec .busy none)))(h:next false (setH L id (.raw (.loop (rec .done (some .ret)))))):At w0 M E k2 N D φ L (RoundEnd w0 M E k2 id rec next .ret):=fun a w hS=>by
 obtain⟨⟨β,hE,R,F⟩,hbn,hsz,hd⟩:=hS
 exact⟨β,L,hE,R,hbn,hl,h⟩
theorem At.roundExit {k2 id j:Nat}{rec:LoopState→Option Code→Loop}{next:Bool→List HB→Prop}(hl:hp L id=.raw (.loop (rec .busy none)))(h:next false (setH L id (.raw (.loop (rec .done (some (.exit j))))))):At w0 M E k2 N D φ L (RoundEnd w0 M E k2 id rec next (.exit j)):=fun a w hS=>by
 obtain⟨⟨β,hE,R,F⟩,hbn,hsz,hd⟩:=hS
 exact⟨β,L,hE,R,hbn,hl,h⟩
def parF:List Tmp→List SV→Fr→Fr
 | p::ps,v::vs,φ=>parF ps vs ((p,v) :: φ)
 | _,_,φ=>φ
def allLt (N:Nat):List Tmp→Bool
 | []=>true
 | p::l=>Nat.blt p N && allLt N l
theorem parF_fits {β : Env}{h:HM}:∀(ps:List Tmp) (vs:List SV) (φ : Fr) (tmps:Array Value),allLt tmps.size ps=true→zd_ h vs→ps.length=vs.length→(∀t v,look φ t=some v→Stable h v∧tmps.getD t undef=v.den β) →
  ∀t v,look (parF ps vs φ) t=some v→Stable h v∧((ps.zip (denL β vs)).foldl (fun t (p,v)=>t.setIfInBounds p v) tmps).getD t undef=v.den β
 | [],[],φ,tmps,_,_,_,hf=>hf
 | [],_::_,φ,tmps,_,_,h,_=>by cases h
 | _::_,[],φ,tmps,_,_,h,_=>by cases h
 | p::ps,v::vs,φ,tmps,hb,hs,hl,hf=>by
  simp only[allLt,Bool.and_eq_true]at hb
  refine parF_fits ps vs ((p,v) :: φ) (tmps.setIfInBounds p (v.den β)) (by simpa using hb.2) hs.2 (by simpa using hl) fun t u hu=>?_
  simp only[look]at hu
  cases hq:Nat.beq p t with
  | true=>
   rw[hq]at hu
   have:=Nat.eq_of_beq_eq_true hq
   subst this
   injection hu with hu
   subst hu
   have hlt:=Nat.le_of_ble_eq_true hb.1
   exact⟨hs.1,by simp[Array.getD_eq_getD_getElem?,Nat.lt_of_succ_le hlt]⟩
  | false=>
   rw[hq]at hu
   have hne:p≠t:=fun e=>by rw[e]at hq;simp at hq
   obtain⟨h1,h2⟩:=hf t u hu
   refine⟨h1,?_⟩
   rw[Array.getD_eq_getD_getElem?]at h2 ⊢
   rw[Array.getElem?_setIfInBounds_ne hne]
   exact h2
theorem foldl_size:∀(l:List (Tmp×Value)) (tmps:Array Value),(l.foldl (fun t (p,v)=>t.setIfInBounds p v) tmps).size=tmps.size
 | [],tmps=>rfl
 | p::l,tmps=>by rw[List.foldl_cons,foldl_size l];simp
theorem At.yield {ops:Array Oper}{k:Nat}{rest:List Nat}{o:Oper}{cl:Call}{x:Operand}{t:Tmp}{g:Option (Tmp×Bool)}{gr:Option Bool}{cx ca:Prop}{id Nc:Nat}{vs:List SV}{rec:LoopState→Option Code→Loop}{tmps:Array Value}{ps:Array Tmp}{asg bd:Code}{φc:Fr}
  (ho:ops[k]? = some o) (hop:o.op=.call cl) (hcal:cl.callee=.value x) (hdst:o.dst=some t) (htN:Nat.blt t N=true) (hgt:gtmp ops.toList o.guard=some g) (hgv:gval φ g=some gr) (hgr:gr.getD true=true)
  (hx:ev φ x=some (cx,.yl id)) (hcx:cx) (ha:evL φ cl.args.toList=some (ca,vs)) (hca:ca) (hl:hp L id=.raw (.loop (rec .ready none))) (hrec:Rec rec tmps ps asg bd) (hcf:CF E n0 tmps Nc φc) (hps:vs.length=ps.size) (hlt:allLt Nc ps.toList=true) (hbn:bornTo L.length L=true)
  (round:∀(lb:Nat) (E2:Env) (next:Bool→List HB→Prop),(∀i,i < n0→E2 i=E i)→(∀b L2,At w0 M E n0 N D ((t,.bool b) :: φ) L2 (wpOpsIn (FR ro) n P ops Q rest)→next b L2) →
   WF (some lb) (n - 1) P asg w0 M E2 L.length Nc [] (parF ps.toList vs φc) L (Exit.then (Begins P w0 M E2 L.length id (bd.wpIn (FR (some lb)) (n - 1) P (RoundEnd w0 M E2 L.length id rec next))) (fun _ _ _=>False))) :
  At w0 M E n0 N D φ L (wpOpsIn (FR ro) n P ops Q (k::rest)):=fun a w hS=>by
 obtain⟨⟨β,hE,R,F⟩,hborn,hsz,hdf⟩:=hS
 obtain⟨fn,d,rfl⟩:=hrec.ex
 have hxe:=(ev_spec F R.nil R.nil0 hx hcx).2
 obtain⟨hsv,hav⟩:=evL_spec F R.nil R.nil0 ha hca
 have hb:=R.blk id
 rw[hl]at hb
 obtain⟨gb,hgb,hob⟩:=hb
 have hw:Region.wanted o (yielded ops a.tmps)=true:=by
  rw[wanted_gval (φ:=φ) (β:=β) hgt hgv fun t _ v hv=>(F t v hv).2]
  exact hgr
 have hyl:(SV.yl id).den β = .func (.yield gb) #[] #[]:=by simp only[SV.den,hgb]
 have hsize:(cl.args.map a.eval).size=ps.size:=by
  have:=congrArg List.length hav
  rw[List.length_map]at this
  have e:∀l:List SV,(denL β l).length=l.length:=fun l=>by induction l with
   | nil=>rfl
   | cons x l ih=>simp[denL,ih]
  rw[Array.size_map,←Array.length_toList,this,e,hps]
 have hargs:cl.args.map a.eval=(denL β vs).toArray:=by apply Array.ext';simp[hav]
 have hrun:(execOp a.eval o).run P w=.ok (.round gb fn ((ps.toList.zip (denL β vs)).foldl (fun t (p,v)=>t.setIfInBounds p v) tmps) asg bd) w:=by
  have hy:=run_yield (P:=P) (args:=cl.args.map a.eval) hob (by rw[hsize];rfl)
  obtain⟨dst,op,ty,pos,after,gd⟩:=o
  simp only at hop
  subst hop
  obtain⟨callee,args,tys⟩:=cl
  simp only at hcal
  subst hcal
  simp only[execOp,resolve,hxe,hyl,Deferred.ofValue,Sem.run_bind,Sem.run_pure,Result.andThen_ok,invoke,Array.append_empty,Array.empty_append]
  rw[hy]
  simp only at hargs
  rw[hargs]
  congr 2
  simp only[lrec]
  rw[←Array.foldl_toList]
  simp[Array.toList_zip]
 -- the states behind the round
 have done:∀(b:Bool) (L2:List HB) (β2:Env) (w2:World),(∀i,i < L.length→β2 i = β i)→Rep w0 M β2 (hp L2) w2→(∀i,i < L.length→(hp L2 i).born=true)→St w0 M E n0 N D ((t,.bool b) :: φ) L2 (a.put o.dst (.bool b)) w2:=fun b L2 β2 w2 h1 R2 h2=>by
  have hn0:∀i,i < n0→i < L.length:=fun i hi=>by
   rcases Nat.lt_or_ge i L.length with h|h
   ·exact h
   ·have:=hborn i hi;rw[xc_ h]at this;cases this
  have hb:∀i,(hp L i).born=true→i < L.length:=fun i hi=>by
   rcases Nat.lt_or_ge i L.length with h|h
   ·exact h
   ·rw[xc_ h]at hi;cases hi
  have htN':∀t',o.dst=some t'→t' < N:=fun t' e=>by
   rw[hdst]at e;injection e with e;subst e
   exact Nat.le_of_ble_eq_true htN
  refine⟨⟨β2,fun i hi=>(h1 i (hn0 i hi)).trans (hE i hi),R2,fun u v hv=>?_⟩,fun i hi=>h2 i (hn0 i hi),by rw[put_size];exact hsz,by rw[put_defers];exact hdf⟩
  rw[put_get hsz htN',hdst]
  simp only[look]at hv
  cases hq:Nat.beq t u with
  | true=>
   rw[hq]at hv
   have:=Nat.eq_of_beq_eq_true hq
   subst this
   injection hv with hv
   subst hv
   exact⟨trivial,by simp[SV.den]⟩
  | false=>
   rw[hq]at hv
   have hne:t≠u:=fun e=>by rw[e]at hq;simp at hq
   obtain⟨k1,k2⟩:=F u v hv
   refine⟨k1.more fun i hi=>h2 i (hb i hi),?_⟩
   rw[if_neg (by simp[hne]),k2]
   exact k1.den fun i hi=>(h1 i (hb i hi)).symm
 simp only[wpOpsIn,ho,hw,if_true]
 refine⟨fun _ _=>trivial,?_⟩
 have hs:=Oper.semAt_eq (FR ro).round a.eval o (fun c e=>by rw[hop]at e;cases e)
 rw[hs,hrun,Oper.uponIn_round]
 refine⟨(fun h=>by cases h),?_⟩
 have hround:=round gb β (fun b L2=>∀(β2:Env) (w2:World),(∀i,i < L.length→β2 i = β i)→Rep w0 M β2 (hp L2) w2→(∀i,i < L.length→(hp L2 i).born=true)→wpOpsIn (FR ro) n P ops Q rest (a.put o.dst (.bool b)) w2) hE
  (fun b L2 hA β2 w2 h1 R2 h2=>hA _ _ (done b L2 β2 w2 h1 R2 h2))
 have hbL:∀i,i < L.length→(hp L i).born=true:=fun i hi=>by
  simp only[bornTo,List.all_eq_true]at hbn
  exact hbn i (List.mem_range.2 hi)
 obtain⟨htsz,L0,hL0,hcf⟩:=hcf
 have h0 := hround { tmps := (ps.toList.zip (denL β vs)).foldl (fun t (p, v) => t.setIfInBounds p v) tmps, defers := [] } w ⟨⟨β,fun _ _=>rfl,R,parF_fits _ _ _ _ (by rw[htsz];exact hlt) hsv (by rw[hps];simp) fun u v hv=>by
   obtain⟨k1,k2⟩:=hcf u v hv
   have hin:∀i,(hp L0 i).born=true→i < n0:=fun i hi=>by
    rcases Nat.lt_or_ge i L0.length with h|h
    ·omega
    ·rw[xc_ h]at hi;cases hi
   exact⟨k1.more fun i hi=>hborn i (hin i hi),by rw[k2];exact k1.den fun i hi=>(hE i (hin i hi)).symm⟩⟩,hbL,by rw[foldl_size];exact htsz,rfl⟩
 have back:∀{L2:List HB} {β2:Env} {w2:World} {st:LoopState} {pe:Option Code},(∀i,i < L.length→β2 i = β i)→Rep w0 M β2 (hp L2) w2→(∀i,i < L.length→(hp L2 i).born=true)→hp L2 id=.raw (.loop (lrec fn tmps ps asg bd d .busy none)) →
   w2.heap[gb]? = some (.loop (lrec fn tmps ps asg bd d .busy none))∧Rep w0 M β2 (hp (setH L2 id (.raw (.loop (lrec fn tmps ps asg bd d st pe))))) (w2.putObj gb (.loop (lrec fn tmps ps asg bd d st pe)))∧(∀i,i < L.length→(hp (setH L2 id (.raw (.loop (lrec fn tmps ps asg bd d st pe)))) i).born=true):=fun {L2 β2 w2 st pe} h1 R2 h2 h3=>by
  have hid:id < L.length:=by
   rcases Nat.lt_or_ge id L.length with h|h
   ·exact h
   ·have:=xc_ h;rw[hl]at this;cases this
  have hb2:=R2.blk id
  rw[h3]at hb2
  obtain⟨g2,e1,e2⟩:=hb2
  have hg2:g2=gb:=by
   have:=h1 id hid
   rw[this]at e1
   rw[hgb]at e1
   injection e1 with e1
   injection e1 with e1
   exact e1.symm
  subst hg2
  refine⟨e2,?_,fun i hi=>?_⟩
  ·rw[hp_setH]
   exact R2.rawPut h3 e1
  ·rw[hp_setH]
   unfold Vm.upd
   split
   ·rfl
   ·exact h2 i hi
 refine roundIn_of_wpIn trivial (wpIn_mono h0 fun e a1 w1 hq=>?_)
 cases e with
 | normal=>
  obtain⟨β1,g1,w2,hb1,hg1,hrun1,hbody⟩:=hq
  have hid:id < L.length:=by
   rcases Nat.lt_or_ge id L.length with h|h
   ·exact h
   ·have:=xc_ h;rw[hl]at this;cases this
  have e1:g1=gb:=by
   rw[hb1 id hid,hgb]at hg1
   injection hg1 with hg1
   injection hg1 with hg1
   exact hg1.symm
  subst e1
  refine⟨w2,hrun1,wpIn_mono hbody fun e a3 w3 hq=>?_⟩
  cases e with
  | normal=>
   obtain⟨β2,L2,h1,R2,h2,h3,hn⟩:=hq
   obtain⟨k1,k2,k3⟩:=back (st:=.ready) (pe:=none) h1 R2 h2 h3
   exact⟨_,_,run_endRound none k1,hn β2 _ h1 k2 k3⟩
  | ret=>
   obtain⟨β2,L2,h1,R2,h2,h3,hn⟩:=hq
   obtain⟨k1,k2,k3⟩:=back (st:=.done) (pe:=some .ret) h1 R2 h2 h3
   exact⟨_,_,run_endRound (some .ret) k1,hn β2 _ h1 k2 k3⟩
  | exit j=>
   obtain⟨β2,L2,h1,R2,h2,h3,hn⟩:=hq
   obtain⟨k1,k2,k3⟩:=back (st:=.done) (pe:=some (.exit j)) h1 R2 h2 h3
   exact⟨_,_,run_endRound (some (.exit j)) k1,hn β2 _ h1 k2 k3⟩
  | goto j=>
   obtain⟨β2,L2,h1,R2,h2,h3,hn⟩:=hq
   obtain⟨k1,k2,k3⟩:=back (st:=.done) (pe:=some (.goto j)) h1 R2 h2 h3
   exact⟨_,_,run_endRound (some (.goto j)) k1,hn β2 _ h1 k2 k3⟩
  | panic ch=>exact hq.elim
  | outgrown=>exact hq.elim
 | ret=>exact hq.elim
 | exit j=>exact hq.elim
 | goto j=>exact hq.elim
 | panic ch=>exact hq.elim
 | outgrown=>exact hq.elim
end
end Go.Proofs.Ytjliakjbdcplcaa.Vm
end
section
namespace Go.Proofs.Ytjliakjbdcplcaa.Vm
open Go.RowKit
def ItEnd (w0:World)(M:Nat→Prop)(E1:Env)(k:Nat)(rec:LoopState→Option Code→Loop)(after:Option Code→List HB→Prop):Exit→Act→World→Prop
 | .ret,a,w | .normal,a,w=>a.defers=[]∧∃(β : Env) (L:List HB) (st:LoopState) (pe:Option Code),(∀i,i < k+2→β i=E1 i)∧Rep w0 M β (hp L) w∧(∀i,i < k+2→(hp L i).born=true)∧hp L k=.raw (.deferred (some []))∧hp L (k+1)=.raw (.loop (rec st pe))∧st≠.busy∧after pe (setH (setH L k .gone) (k+1) .gone)
 | _,_,_=>False
theorem hp_append2 (L:List HB)(x y:HB):hp (L++[x,y])=upd (upd (hp L) L.length x) (L.length+1) y:=by
 funext i
 unfold hp upd
 by_cases h1:i=L.length+1
 ·subst h1;simp
 ·rw[if_neg h1]
  by_cases h2:i=L.length
  ·subst h2;simp
  ·rw[if_neg h2]
   rcases Nat.lt_or_ge i L.length with h|h
   ·simp[List.getElem?_append_left h]
   ·have:L.length+2≤i:=by omega
    simp[List.getElem?_eq_none (show (L++[x,y]).length≤i by simp;omega),List.getElem?_eq_none h]
section
variable {P:Program} {T:Tab} {C:FuncId→Option yr_} {w0:World} {M:Nat→Prop} {E:Env} {n0 N n:Nat} {D:List Deferred} {φ φ2 φ':Fr} {L L2 L':List HB} {Q:Exit→Act→World→Prop} {ro:Option Nat}
theorem At.itRet {k:Nat}{rec:LoopState→Option Code→Loop}{after:Option Code→List HB→Prop}{pe:Option Code}(st:LoopState)(h1:hp L k=.raw (.deferred (some [])))(h2:hp L (k+1)=.raw (.loop (rec st pe)))(h3:st≠.busy)(h:after pe (setH (setH L k .gone) (k+1) .gone)):At w0 M E (k+2) N [] φ L (ItEnd w0 M E k rec after .ret):=fun a w hS=>by
 obtain⟨⟨β,hE,R,F⟩,hbn,hsz,hd⟩:=hS
 exact⟨hd,β,L,st,pe,hE,R,hbn,h1,h2,h3,h⟩
theorem At.itNormal {k:Nat}{rec:LoopState→Option Code→Loop}{after:Option Code→List HB→Prop}{pe:Option Code}(st:LoopState)(h1:hp L k=.raw (.deferred (some [])))(h2:hp L (k+1)=.raw (.loop (rec st pe)))(h3:st≠.busy)(h:after pe (setH (setH L k .gone) (k+1) .gone)):At w0 M E (k+2) N [] φ L (ItEnd w0 M E k rec after .normal):=fun a w hS=>by
 obtain⟨⟨β,hE,R,F⟩,hbn,hsz,hd⟩:=hS
 exact⟨hd,β,L,st,pe,hE,R,hbn,h1,h2,h3,h⟩
def Behind (n:Nat)(P:Program)(w0:World)(M:Nat→Prop)(E:Env)(n0 N:Nat)(D:List Deferred)(φ : Fr)(Q:Exit→Act→World→Prop)(pe:Option Code)(L:List HB):Prop:=∀w1 M1 D1,Anc w0 M D w1 M1 D1→match pe with
 | none=>At w1 M1 E n0 N D1 φ L (Q .normal)
 | some c=>WF none n P c w1 M1 E n0 N D1 φ L Q
theorem WF.range {g : Operand} {ps : Array Tmp} {asg bd c' : Code} {p : Prop} {f : FuncId} {fn' : Func} {caps : List SV} (N' : Nat) (he : ev φ g = some (p, .fn f caps)) (hp_ : p) (hf : P.funcs[f]? = some fn') (hb : fn'.body = some c') (hN' : fn'.ntmps = N') (hname : (fn'.name == "runtime.NumGoroutine") = false) (hres : fn'.results = #[])
  (hlen:Nat.ble (caps.length+1) N'=true) (hbn:bornTo L.length L=true)
  (it:∀(E1:Env) (rec:LoopState→Option Code→Loop) (tmps:Array Value) (after:Option Code→List HB→Prop),(∀i,i < n0→E1 i=E i)→Rec rec tmps ps asg bd→CF E1 (L.length+2) tmps N φ→(∀pe L2,Behind n P w0 M E n0 N D φ Q pe L2→after pe L2) →
   WF none (n - 1) P c' w0 M E1 (L.length+2) N' [] (frameOf 0 (.yl (L.length+1)::caps)) (L++[.raw (.deferred (some [])),.raw (.loop (rec .ready none))]) (ItEnd w0 M E1 L.length rec after)) :
  WF none n P (.rangeFunc g ps asg bd) w0 M E n0 N D φ L Q:=fun a w hS=>by
 obtain⟨⟨β,hE,R,F⟩,hborn,hsz,hdf⟩:=hS
 subst hN'
 have hxe:=ev_spec F R.nil R.nil0 he hp_
 have hn0:∀i,i < n0→i < L.length:=fun i hi=>by
  rcases Nat.lt_or_ge i L.length with h|h
  ·exact h
  ·have:=hborn i hi;rw[xc_ h]at this;cases this
 have hbL:∀i,(hp L i).born=true→i < L.length:=fun i hi=>by
  rcases Nat.lt_or_ge i L.length with h|h
  ·exact h
  ·rw[xc_ h]at hi;cases hi
 have hLb:∀i,i < L.length→(hp L i).born=true:=fun i hi=>by
  simp only[bornTo,List.all_eq_true]at hbn
  exact hbn i (List.mem_range.2 hi)
 refine wpIn_rangeFunc fun fn hfn=>?_
 -- the two blocks
 obtain⟨rec,hrec⟩:∃rec,rec=lrec fn a.tmps ps asg bd w.heap.size:=⟨_,rfl⟩
 have R1:=R.rawNew (m:=L.length) (xc_ (Nat.le_refl _)) (.deferred (some []))
 have R2:=R1.rawNew (m:=L.length+1) (by rw[yb_ (by omega)];exact xc_ (by omega)) (.loop (rec .ready none))
 have hsz1:(w.alloc (.deferred (some []))).heap.size=w.heap.size+1:=by simp
 rw[hsz1]at R2
 obtain⟨E1,hE1⟩:∃E1,E1=setE (setE β L.length (some ⟨w.heap.size,0,none⟩,0)) (L.length+1) (some ⟨w.heap.size+1,0,none⟩,0):=⟨_,rfl⟩
 rw[←hE1]at R2
 have hEk:E1 L.length=(some ⟨w.heap.size,0,none⟩,0):=by rw[hE1,xe_ (by omega),z2_]
 have hEk1:E1 (L.length+1)=(some ⟨w.heap.size+1,0,none⟩,0):=by rw[hE1,z2_]
 have hEb:∀i,i < L.length→E1 i = β i:=fun i hi=>by rw[hE1,xe_ (by omega),xe_ (by omega)]
 obtain⟨W1,hW1⟩:∃W1,W1=(w.alloc (.deferred (some []))).alloc (.loop (rec .ready none)):=⟨_,rfl⟩
 rw[←hW1,←hp_append2]at R2
 refine⟨w.heap.size+1,[mrk w.heap.size],W1,{ target:=.fn (.func f) (denL β caps).toArray,args:=#[.func (.yield (w.heap.size+1)) #[] #[]] },W1,f,#[.func (.yield (w.heap.size+1)) #[] #[]]++(denL β caps).toArray,W1,?_,?_,fun _ _=>trivial,?_,(fun h=>by cases h),?_⟩
 ·rw[hW1,hrec];exact run_enterLoop_outer _ _ _ _ _
 ·simp only[resolve,hxe.2,SV.den,Deferred.ofValue]
  simp[Sem.run_pure]
  rfl
 ·have hne' : ¬ (fn'.name = "runtime.NumGoroutine") := by simpa using hname
  simp[invoke,callFunc,hf,hne',hb]
 have hdenl:denL E1 caps=denL β caps:=(zd_.den (h:=hp L) (fun i hi=>(hEb i (hbL i hi)).symm) (by simpa [Stable]using hxe.1)).symm
 have hlenL:∀l:List SV,(denL E1 l).length=l.length:=fun l=>by induction l with
  | nil=>rfl
  | cons x l ih=>simp[denL,ih]
 refine callsIn_of_wp hf hb trivial (wpIn_mono (it E1 rec a.tmps (Behind n P w0 M E n0 N D φ Q) (fun i hi=>(hEb i (hn0 i hi)).trans (hE i hi)) ⟨fn,w.heap.size,hrec⟩ ⟨hsz,L,by omega,fun t v hv=>?_⟩ (fun _ _ h=>h) _ W1 ⟨⟨E1,fun _ _=>rfl,R2,fun t v hv=>?_⟩,fun i hi=>?_,?_,rfl⟩) fun e a' w' hq=>?_) rfl
 ·obtain⟨k1,k2⟩:=F t v hv
  exact⟨k1,by rw[k2];exact k1.den fun i hi=>(hEb i (hbL i hi)).symm⟩
 ·-- the iterator's frame
  obtain⟨j,rfl,hj⟩:=look_frameOf hv
  rw[Nat.zero_add]
  have hst:zd_ (hp (L++[.raw (.deferred (some [])),.raw (.loop (rec .ready none))])) (.yl (L.length+1)::caps):=by
   refine⟨?_,?_⟩
   ·simp only[Stable,hp_append2,zs_];rfl
   ·refine zd_.more (h:=hp L) (fun i hi=>?_) (by simpa [Stable]using hxe.1)
    rw[hp_append2,yb_ (by have:=hbL i hi;omega),yb_ (by have:=hbL i hi;omega)]
    exact hi
  refine⟨yj_.1 hst _ (List.mem_of_getElem? hj),?_⟩
  have hd:=denL_get (β:=E1) hj
  have hargs:#[.func (.yield (w.heap.size+1)) #[] #[]]++(denL β caps).toArray=(denL E1 (.yl (L.length+1)::caps)).toArray:=by
   rw[←hdenl]
   simp[denL,SV.den,hEk1]
  rw[hargs]
  have hlt:j < (denL E1 (.yl (L.length+1)::caps)).length:=by
   rcases Nat.lt_or_ge j (denL E1 (.yl (L.length+1)::caps)).length with h|h
   ·exact h
   ·rw[List.getElem?_eq_none h]at hd;cases hd
  rw[Array.getD_eq_getD_getElem?,Array.getElem?_append_left (by simpa using hlt)]
  simp[hd]
 ·rw[hp_append2]
  unfold Vm.upd
  split
  ·rfl
  ·split
   ·rfl
   ·exact hLb i (by omega)
 ·have:=Nat.le_of_ble_eq_true hlen
  have e:(denL β caps).length=caps.length:=by rw[←hdenl];exact hlenL caps
  simp[e]
  omega
 ·-- behind the iterator
  have fin:∀{β':Env} {L3:List HB} {st:LoopState} {pe:Option Code},(∀i,i < L.length+2→β' i=E1 i)→Rep w0 M β' (hp L3) w'→(∀i,i < L.length+2→(hp L3 i).born=true)→hp L3 L.length=.raw (.deferred (some []))→hp L3 (L.length+1)=.raw (.loop (rec st pe))→st≠.busy→Behind n P w0 M E n0 N D φ Q pe (setH (setH L3 L.length .gone) (L.length+1) .gone) →
    rangePost (FR none) n P (w.heap.size+1) Q { a with defers:=[mrk w.heap.size]++a.defers } (.returned (.tuple #[])) w':=fun {β' L3 st pe} h1 R' h2 h3 h4 h5 haf=>by
   have hk:=R'.blk (L.length+1)
   rw[h4]at hk
   obtain⟨g1,e1,e2⟩:=hk
   rw[h1 _ (by omega),hEk1]at e1
   injection e1 with e1
   injection e1 with e1
   subst e1
   have hd:=R'.blk L.length
   rw[h3]at hd
   obtain⟨g2,f1,f2⟩:=hd
   rw[h1 _ (by omega),hEk]at f1
   injection f1 with f1
   injection f1 with f1
   subst f1
   have hrun:=run_endLoop (P:=P) e2 (by rw[hrec];exact h5)
   have hpe:(rec st pe).pending=pe:=by rw[hrec];rfl
   obtain⟨o',ho'⟩:∃o',o'=Obj.loop { rec st pe with state:=.exhausted }:=⟨_,rfl⟩
   have hrun':(Instr.endLoop (w.heap.size+1)).run P w'=.ok (rec st pe).pending (w'.putObj (w.heap.size+1) o'):=by rw[ho'];exact hrun
   rw[hpe]at hrun'
   refine⟨pe,_,hrun',?_⟩
   have ek1:(β' (L.length+1)).1=some ⟨w.heap.size+1,0,none⟩:=by rw[h1 _ (by omega),hEk1]
   have ek:(β' L.length).1=some ⟨w.heap.size,0,none⟩:=by rw[h1 _ (by omega),hEk]
   have R3:=((R'.rawPut (o':=o') h4 ek1).forget L.length (by rw[yb_ (by omega),h3];rfl)).forget (L.length+1) (by rw[yb_ (by omega),zs_];rfl)
   have hh:upd (upd (upd (hp L3) (L.length+1) (.raw o')) L.length .gone) (L.length+1) .gone=hp (setH (setH L3 L.length .gone) (L.length+1) .gone):=by
    rw[hp_setH,hp_setH]
    funext i
    unfold Vm.upd
    split
    ·rfl
    ·split
     ·rfl
     ·rfl
   rw[hh]at R3
   obtain⟨L4,hL4⟩:∃L4,L4=setH (setH L3 L.length .gone) (L.length+1) .gone:=⟨_,rfl⟩
   have hL4i:∀i,i≠L.length→i≠L.length+1→hp L4 i=hp L3 i:=fun i n1 n2=>by rw[hL4,hp_setH,hp_setH,yb_ n2,yb_ n1]
   have hL4k:hp L4 L.length=.gone:=by rw[hL4,hp_setH,hp_setH,yb_ (by omega),zs_]
   have hL4k1:hp L4 (L.length+1)=.gone:=by rw[hL4,hp_setH,hp_setH,zs_]
   rw[←hL4]at R3 haf
   have hnm:¬mineSet β' (hp L4) w.heap.size:=fun⟨i,ad,hm,ha,he⟩=>by
    have n1:i≠L.length:=by rintro rfl;rw[hL4k]at hm;cases hm
    have n2:i≠L.length+1:=by rintro rfl;rw[hL4k1]at hm;cases hm
    rw[hL4i i n1 n2]at hm
    exact R'.dist i L.length ad _ n1 hm (by rw[h3];rfl) ha ek he
   have hA:Anc w0 M D (w'.putObj (w.heap.size+1) o') (mineSet β' (hp L4)) (mrk w.heap.size::D):=R3.ancMark R.size hnm ((World.putObj_heap_other (by omega)).trans f2)
   have hSt:St (w'.putObj (w.heap.size+1) o') (mineSet β' (hp L4)) E n0 N (mrk w.heap.size::D) φ L4 { a with defers:=[mrk w.heap.size]++a.defers } (w'.putObj (w.heap.size+1) o'):=by
    refine⟨⟨β',fun i hi=>?_,R3.rebase,fun t v hv=>?_⟩,fun i hi=>?_,hsz,by rw[hdf];rfl⟩
    ·have:=hn0 i hi
     rw[h1 i (by omega),hEb i this]
     exact hE i hi
    ·obtain⟨k1,k2⟩:=F t v hv
     refine⟨k1.more fun i hi=>?_,?_⟩
     ·have:=hbL i hi
      rw[hL4i i (by omega) (by omega)]
      exact h2 i (by omega)
     ·rw[show ({ a with defers:=[mrk w.heap.size]++a.defers }:Act).tmps=a.tmps from rfl,k2]
      refine k1.den fun i hi=>?_
      have:=hbL i hi
      rw[h1 i (by omega),hEb i this]
    ·have:=hn0 i hi
     rw[hL4i i (by omega) (by omega)]
     exact h2 i (by omega)
   have hB:=haf _ _ _ hA
   cases pe with
   | none=>exact hB _ _ hSt
   | some c=>exact hB _ _ hSt
  cases e with
  | normal=>
   obtain⟨hd,β',L3,st,pe,h1,R',h2,h3,h4,h5,haf⟩:=hq
   exact⟨hd,_,results_none hres _ _ _,fin h1 R' h2 h3 h4 h5 haf⟩
  | ret=>
   obtain⟨hd,β',L3,st,pe,h1,R',h2,h3,h4,h5,haf⟩:=hq
   exact⟨hd,_,results_none hres _ _ _,fin h1 R' h2 h3 h4 h5 haf⟩
  | exit j=>exact hq.elim
  | goto j=>exact hq.elim
  | panic ch=>exact hq.elim
  | outgrown=>exact hq.elim
end
end Go.Proofs.Ytjliakjbdcplcaa.Vm
end
section
namespace Go.Proofs.Ytjliakjbdcplcaa.Vm
open Go.RowKit
theorem start (W:World):Rep W (fun _=>False) (fun _=>(none,0)) (hp [.gone]) W:=by
 have h1:∀i,hp [.gone] i=.gone∨hp [.gone] i=.dead:=fun i=>by
  cases i with
  | zero=>exact .inl rfl
  | succ i=>exact .inr (by unfold hp;simp)
 have hm:∀i,(hp [.gone] i).mine=false:=fun i=>by rcases h1 i with h|h<;>rw[h]<;>rfl
 refine { os:=rfl,tape:=rfl,output:=rfl,size:=Nat.le_refl _,frame:=fun _ _ _=>rfl,nil:=rfl,nil0:=rfl,st:=fun i=>?_,blk:=fun i=>?_,own:=fun i a h=>?_,ro:=fun i v a h=>?_,dist:=fun i j ai aj _ h=>?_,lt:=fun i a h=>?_ }
 ·rcases h1 i with h|h<;>rw[h]<;>trivial
 ·rcases h1 i with h|h<;>rw[h]<;>trivial
 ·rw[hm i]at h;cases h
 ·rcases h1 i with h'|h'<;>rw[h']at h<;>cases h
 ·rw[hm i]at h;cases h
 ·rw[hm i]at h;cases h
theorem Rep.handedN {W:World}{β : Env}{L:List HB}(R:Rep W (fun _=>False) β (hp L) W)(m:Nat)(hm:L.length=m){A:Option Addr}{n cap k:Nat}{f:Nat→SV}(hr:yh_ W W.heap.size k A n (zx_ β k n f))(hn:n≤cap)(hf:∀q,Stable (hp L) (f q))(hk:0 < k) :
  ∃β',(∀i,i < m→β i = β' i)∧Rep W (fun _=>False) β' (hp (setH (setH L m .gone) (m+1) (.ro (.arr n k f)))) W∧(SV.sl m (m+1) [] k 0 n (some cap)).den β'=.slice A n cap:=by
 have h1:hp L m=.dead:=xc_ (by omega)
 have h2:hp L (m+1)=.dead:=xc_ (by omega)
 have R1:=R.birth m h1 (A,cap) .gone trivial rfl trivial (fun a hm _=>by cases hm) (fun v a hv=>by cases hv)
 have hs:Stable (hp L) (.arr n k f):=by simp only[Stable];exact hf
 have born1:∀i,(hp L i).born=true→(upd (hp L) m .gone i).born=true:=fun i hi=>by unfold upd;split<;>simp_all [HB.born]
 have hs1:Stable (upd (hp L) m .gone) (.arr n k f):=hs.more born1
 let e2:Option Addr×Nat:=(if n=0 then none else A,n)
 have ag:∀i,(hp L i).born=true→β i=setE (setE β m (A,cap)) (m+1) e2 i:=fun i hi=>by
  rw[xe_ (by rintro rfl;rw[h2]at hi;cases hi),xe_ (by rintro rfl;rw[h1]at hi;cases hi)]
 have hcl:(SV.arr n k f).cl (setE (setE β m (A,cap)) (m+1) e2)=zx_ β k n f:=by rw[←hs.cl ag,cl_arr']
 have R2:=R1.birth (m+1) (by rw[yb_ (by omega)];exact h2) e2 (.ro (.arr n k f)) (hs1.more fun i hi=>by unfold upd at hi ⊢;split<;>simp_all [HB.born]) rfl ?_ (fun a hm _=>by cases hm) ?_
 ·refine⟨setE (setE β m (A,cap)) (m+1) e2,fun i hi=>by rw[xe_ (by omega),xe_ (by omega)],by rw[hp_setH,hp_setH];exact R2,?_⟩
  simp only[SV.den,z2_,xe_ (show m≠m+1 by omega),Option.getD_some]
  by_cases h0:n=0
  ·subst h0;simp
  ·obtain⟨ad,rfl,_⟩:=hr.2 (by omega)
   have e:max n cap=cap:=by omega
   simp[h0,e2,e,offp,Addr.add]
 ·refine⟨fun a ha j x hx=>?_,fun hn=>?_,fun n' k' f' hv=>?_⟩
  ·rw[z2_]at ha
   rw[hcl]at hx
   by_cases h0:n=0
   ·simp[e2,h0]at ha
   ·obtain⟨ad,rfl,_,hc⟩:=hr.2 (by omega)
    simp[e2,h0]at ha
    subst ha
    exact hc j x hx
  ·rw[z2_]at hn
   by_cases h0:n=0
   ·simp[SV.size,h0]
   ·obtain⟨ad,rfl,_⟩:=hr.2 (by omega)
    simp[e2,h0]at hn
  ·injection hv with q1 q2 q3
   rw[z2_]
   exact Nat.le_of_eq q1.symm
 ·intro v a hv ha hz
  injection hv with hv
  subst hv
  by_cases h0:n=0
  ·simp[e2,h0]at ha
  ·obtain⟨ad,rfl,hb,_⟩:=hr.2 (by omega)
   simp[e2,h0]at ha
   subst ha
   exact⟨hb,id⟩
theorem Rep.handed {W:World}{β : Env}{L:List HB}(R:Rep W (fun _=>False) β (hp L) W)(m:Nat)(hm:L.length=m){A:Option Addr}{n cap k:Nat}{f:Nat→SV}(hr:yh_ W W.heap.size k A n (zx_ β k n f))(hn:n≤cap)(hf:∀q,Stable (hp L) (f q))(hk:0 < k) :
  ∃β',(∀i,(hp L i).born=true→β i = β' i)∧Rep W (fun _=>False) β' (hp (setH (setH L m .gone) (m+1) (.ro (.arr n k f)))) W∧(SV.sl m (m+1) [] k 0 n (some cap)).den β'=.slice A n cap:=by
 obtain⟨β',h1,h2,h3⟩:=R.handedN m hm hr hn hf hk
 refine⟨β',fun i hi=>h1 i ?_,h2,h3⟩
 rcases Nat.lt_or_ge i m with h|h
 ·exact h
 ·rw[xc_ (by omega)]at hi;cases hi
theorem zk_ {w0 w:World}{M:Nat→Prop}{β : Env}{h h':HM}(R:Rep w0 M β h' w){k:Nat}{z0 v:SV}{c:Prop}{n:Nat}{f:Nat→SV}{rd:List Nat}(ha:srcV h k z0 v=some (c,n,f,rd))(hc:c)(hrd:∀i∈rd,h' i=h i)(hk:0 < k) :
  ∃A cap,v.den β = .slice A n cap∧n≤cap∧yh_ w w.heap.size k A n (zx_ β k n f):=by
 unfold srcV at ha
 split at ha
 ·rename_i z i pa k' s n' cp
  split at ha
  ·simp only[Option.some.injEq,Prod.mk.injEq]at ha
   obtain⟨rfl,rfl,rfl,rfl⟩:=ha
   subst hc
   exact⟨(β z).1,max 0 (cp.getD (β z).2),by simp only[SV.den,if_true],Nat.zero_le _,by simp[zx_],fun h=>absurd h (by omega)⟩
  ·rename_i i
   split at ha
   ·rename_i u hv
    split at ha
    ·rename_i d N k'' f' hnav
     obtain⟨hb,ha⟩:=zj_ ha
     simp only[Option.some.injEq,Prod.mk.injEq]at ha
     obtain⟨rfl,rfl,rfl,rfl⟩:=ha
     rw[Bool.and_eq_true]at hb
     have hb1:=Nat.eq_of_beq_eq_true hb.1
     have hb2:=Nat.eq_of_beq_eq_true hb.2
     subst hb1 hb2
     obtain⟨hd,hc⟩:=hc
     have hi:h' (i+1)=h (i+1):=hrd (i+1) (.head _)
     have hB:=R.blk (i+1)
     rw[hi]at hB
     by_cases h0:n'=0
     ·subst h0
      exact⟨(β z).1,max 0 (cp.getD (β z).2),by simp only[SV.den,if_true],Nat.zero_le _,by simp[zx_],fun h=>absurd h (by omega)⟩
     ·refine⟨_,_,den_sl_pos h0,by omega,z0_,fun _=>?_⟩
      have hpos:0 < (SV.arr N k f').size:=by
       simp only[SV.size]
       exact Nat.mul_pos (by omega) hk
      obtain⟨ad,hba,hcell⟩:=cells_at (pa:=pa) hB hv (u:=SV.arr N k f') hnav hd hpos
      have hup:0 < u.size:=by
       obtain⟨pre,post,e,_⟩:=nav_spec β pa u d _ hnav hd
       have e2:=congrArg List.length e
       rw[zr_,List.length_append,List.length_append,zr_]at e2
       omega
      have hblk:ad.block < w.heap.size:=by
       cases hh:h (i+1)with
       | own t u' ex=>exact R.lt (i+1) ad (by rw[hi,hh];rfl) hba
       | ro u'=>
        rw[hh]at hv
        injection hv with hv
        subst hv
        exact Nat.lt_of_lt_of_le (R.ro (i+1) _ ad (hi.trans hh) hba hup).1 R.size
       | raw o=>rw[hh]at hv;cases hv
       | gone=>rw[hh]at hv;cases hv
       | dead=>rw[hh]at hv;cases hv
      refine⟨_,rfl,?_,fun j x hx=>?_⟩
      ·rw[block_add,hba];exact hblk
      ·rw[hba]
       simp only[Option.getD_some]
       rw[add_add]
       have:=hcell (s*k+j) x ?_
       ·rw[add_add]at this
        rw[←Nat.add_assoc]at this
        exact this
       ·rw[cl_arr']
        have e2:zx_ β k N f'=zx_ β k s f'++(zx_ β k n' (fun q=>f' (s+q))++zx_ β k (N - s - n') (fun q=>f' (s+n'+q))):=by
         have:N=s+(n'+(N - s - n')):=by omega
         conv=>lhs;rw[this]
         rw[elems_split,elems_split]
         simp only[Nat.add_assoc]
        rw[e2,List.getElem?_append_right (by rw[z0_];omega),z0_,Nat.add_sub_cancel_left,List.getElem?_append_left]
        ·exact hx
        ·exact(List.getElem?_eq_some_iff.1 hx).1
    ·cases ha
   ·cases ha
 ·cases ha
structure View where
 k:Nat
 n:Nat
 F:Nat→SV
 A:Option Addr
 cap:Nat
structure View.Ok (w:World) (x:View):Prop where
 r:∀β : Env,yh_ w w.heap.size x.k x.A x.n (zx_ β x.k x.n x.F)
 c:x.n≤x.cap
 s:∀(h:HM) (q:Nat),Stable h (x.F q)
 p:0 < x.k
def viewL:List View→List HB
 | []=>[]
 | x::l=>.gone :: .ro (.arr x.n x.k x.F)::viewL l
def Vd (β : Env):Nat→List View→Prop
 | _,[]=>True
 | m,x::l=>(SV.sl m (m+1) [] x.k 0 x.n (some x.cap)).den β = .slice x.A x.n x.cap∧Vd β (m+2) l
theorem setH_end:∀(L:List HB) (b:HB),setH L L.length b=L++[b]
 | [],b=>rfl
 | x::l,b=>by show x::setH l l.length b=_;rw[setH_end l b];rfl
theorem handedAll {W:World}:∀(l:List View) {β : Env} {L:List HB},(∀x∈l,x.Ok W)→Rep W (fun _=>False) β (hp L) W →
  ∃β',(∀i,i < L.length→β i = β' i)∧Rep W (fun _=>False) β' (hp (L++viewL l)) W∧Vd β' L.length l
 | [],β,L,_,R=>⟨β,fun _ _=>rfl,by simpa [viewL]using R,trivial⟩
 | x::l,β,L,hok,R=>by
  have hx:=hok x (.head _)
  -- without regard to what is born: by numbers
  have h1:hp L L.length=.dead:=xc_ (Nat.le_refl _)
  have h2:hp L (L.length+1)=.dead:=xc_ (by omega)
  obtain⟨β1,a1,R1,d1⟩:=R.handedN L.length rfl (hx.r β) hx.c (fun q=>hx.s _ q) hx.p
  rw[setH_end,show L.length+1=(L++[HB.gone]).length by simp,setH_end,List.append_assoc]at R1
  obtain⟨β2,a2,R2,d2⟩:=handedAll l (fun y hy=>hok y (.tail _ hy)) R1
  refine⟨β2,fun i hi=>(a1 i hi).trans (a2 i (by simp;omega)),by simpa [viewL,List.append_assoc]using R2,?_,?_⟩
  ·rw[←d1]
   simp only[SV.den,a2 L.length (by simp),a2 (L.length+1) (by simp)]
  ·simpa using d2
def newB (ρ : Nat→Nat):Nat→List HB→List (Nat×HB)
 | _,[]=>[]
 | m,b::l=>(m,b.ren ρ)::newB ρ (m+1) l
theorem wrs_newB {ρ : Nat→Nat}:∀(l:List HB) (m:Nat) (h:HM) (j:Nat),wrs h (newB ρ m l) j=if m≤j∧j < m+l.length then(l.getD (j - m) .dead).ren ρ else h j
 | [],m,h,j=>by
  rw[if_neg (fun⟨h1,h2⟩=>by simp at h2;omega)]
  rfl
 | b::l,m,h,j=>by
  show wrs (upd h m (b.ren ρ)) (newB ρ (m+1) l) j=_
  rw[wrs_newB l (m+1)]
  by_cases h1:j=m
  ·subst h1
   rw[if_neg (by omega),zs_,if_pos ⟨Nat.le_refl _,by simp⟩]
   simp
  ·by_cases h2:m+1≤j∧j < m+1+l.length
   ·rw[if_pos h2,if_pos ⟨by omega,by simp;omega⟩]
    obtain⟨q,hq⟩:∃q,j - m=q+1:=⟨j - m - 1,by omega⟩
    rw[hq,List.getD_cons_succ,show j - (m+1)=q by omega]
   ·rw[if_neg h2,if_neg (by simp;omega),yb_ h1]
def rho (n0 m:Nat):Nat→Nat:=fun i=>if i < n0 then 0 else m+(i - n0)
def hN (n0:Nat)(L1:List HB):HM:=fun i=>if i < n0 then(if i=0 then .gone else .dead)else hp L1 i
theorem graftRo {w0 w w':World}{M:Nat→Prop}{β β1:Env}{h:HM}{L1:List HB}{n0 m:Nat}(R:Rep w0 M β h w)(R1:Rep w (fun _=>False) β1 (hp L1) w')(hn0:0 < n0)(hm:∀i,m≤i→i < m+(L1.length - n0)→h i=.dead)
  (hnew:∀i,n0≤i→(hp L1 i).stable (hN n0 L1)∧(hp L1 i).isRo=false) {v:SV} (hv:Stable (hN n0 L1) v) :
  ∃β',(∀i,(h i).born=true→β i = β' i)∧Rep w0 M β' (wrs h (newB (rho n0 m) m (L1.drop n0))) w'∧Stable (wrs h (newB (rho n0 m) m (L1.drop n0))) (v.ren (rho n0 m))∧v.den β1=(v.ren (rho n0 m)).den β':=by
 obtain⟨k,hk⟩:∃k,k=L1.length - n0:=⟨_,rfl⟩
 have hlen:(L1.drop n0).length=k:=by rw[List.length_drop,hk]
 have born_old:∀i,(h i).born=true→¬(m≤i∧i < m+k):=fun i hi hc=>by
  rw[hm i hc.1 (by rw[←hk];exact hc.2)]at hi;cases hi
 have hz:¬(m≤0∧0 < m+k):=born_old 0 (by rw[R.nil0];rfl)
 have hget:∀j,m≤j→(L1.drop n0).getD (j - m) .dead=hp L1 (n0+(j - m)):=fun j hj=>by
  unfold hp
  rw[List.getD_eq_getElem?_getD,List.getD_eq_getElem?_getD,List.getElem?_drop]
 let h2:HM:=wrs h (newB (rho n0 m) m (L1.drop n0))
 have hnewj:∀j,m≤j→j < m+k→h2 j=(hp L1 (n0+(j - m))).ren (rho n0 m):=fun j h1 h3=>by
  show wrs h (newB (rho n0 m) m (L1.drop n0)) j=_
  rw[wrs_newB,if_pos ⟨h1,by omega⟩,hget j h1]
 have holdj:∀j,¬(m≤j∧j < m+k)→h2 j=h j:=fun j hj=>by
  show wrs h (newB (rho n0 m) m (L1.drop n0)) j=_
  rw[wrs_newB,if_neg (by rw[hlen];exact hj)]
 let β':Env:=fun j=>if m≤j∧j < m+k then β1 (n0+(j - m))else β j
 have hβn:∀j,m≤j→j < m+k→β' j = β1 (n0+(j - m)):=fun j h1 h3=>if_pos ⟨h1,h3⟩
 have hβo:∀j,¬(m≤j∧j < m+k)→β' j = β j:=fun j hj=>if_neg hj
 have bornN:∀i,(hN n0 L1 i).born=true→i=0∨(n0≤i∧i < n0+k):=fun i hi=>by
  unfold hN at hi
  split at hi
  ·split at hi
   ·left;assumption
   ·cases hi
  ·right
   refine⟨by omega,?_⟩
   rcases Nat.lt_or_ge i L1.length with hh|hh
   ·omega
   ·rw[xc_ hh]at hi;cases hi
 have hrb:∀i,(hN n0 L1 i).born=true→β' (rho n0 m i) = β1 i:=fun i hi=>by
  rcases bornN i hi with rfl|⟨h1,h3⟩
  ·have e:rho n0 m 0=0:=if_pos hn0
   rw[e,hβo 0 hz,R.nil,R1.nil]
  ·have e:rho n0 m i=m+(i - n0):=if_neg (by omega)
   rw[e,hβn _ (by omega) (by omega),show n0+(m+(i - n0) - m)=i by omega]
 have more:∀i,(h i).born=true→(h2 i).born=true:=fun i hi=>by
  rw[holdj i (born_old i hi)];exact hi
 have moreN:∀i,(hN n0 L1 i).born=true→(h2 (rho n0 m i)).born=true:=fun i hi=>by
  rcases bornN i hi with rfl|⟨h1,h3⟩
  ·have e:rho n0 m 0=0:=if_pos hn0
   rw[e]
   exact more 0 (by rw[R.nil0];rfl)
  ·have e:rho n0 m i=m+(i - n0):=if_neg (by omega)
   rw[e,hnewj _ (by omega) (by omega),show n0+(m+(i - n0) - m)=i by omega]
   have:hN n0 L1 i=hp L1 i:=if_neg (by omega)
   rw[this]at hi
   cases hh:hp L1 i<;>rw[hh]at hi<;>first|rfl |(cases hi;done)
 have agree:∀i,(h i).born=true→β i = β' i:=fun i hi=>(hβo i (born_old i hi)).symm
 have mineN:∀j,(h2 j).mine=true→(m≤j∧j < m+k∧(hp L1 (n0+(j - m))).mine=true)∨(¬(m≤j∧j < m+k)∧(h j).mine=true):=fun j hj=>by
  by_cases hc:m≤j∧j < m+k
  ·left
   refine⟨hc.1,hc.2,?_⟩
   rw[hnewj j hc.1 hc.2]at hj
   cases hh:hp L1 (n0+(j - m))<;>rw[hh]at hj<;>first|rfl |(cases hj;done)
  ·right
   rw[holdj j hc]at hj
   exact⟨hc,hj⟩
 have newHi:∀j a,m≤j→j < m+k→(hp L1 (n0+(j - m))).mine=true→(β' j).1=some a→w.heap.size≤a.block∧a.block < w'.heap.size:=fun j a h1 h3 hmi ha=>by
  rw[hβn j h1 h3]at ha
  refine⟨?_,R1.lt _ a hmi ha⟩
  rcases R1.own _ a hmi ha with hh|hh
  ·exact hh
  ·exact hh.elim
 refine⟨β',agree,?_,hv.ren moreN,(den_ren hrb hv).symm⟩
 show Rep w0 M β' h2 w'
 refine { os:=R1.os.trans R.os,tape:=R1.tape.trans R.tape,output:=R1.output.trans R.output,size:=Nat.le_trans R.size R1.size,frame:=?_,nil:=?_,nil0:=?_,st:=?_,blk:=?_,own:=?_,ro:=?_,dist:=?_,lt:=?_ }
 ·intro g hg hM
  exact(R1.frame g (Nat.lt_of_lt_of_le hg R.size) id).trans (R.frame g hg hM)
 ·rw[hβo 0 hz];exact R.nil
 ·rw[holdj 0 hz];exact R.nil0
 ·intro j
  by_cases hc:m≤j∧j < m+k
  ·rw[hnewj j hc.1 hc.2]
   have hs:=(hnew (n0+(j - m)) (by omega)).1
   cases hh:hp L1 (n0+(j - m))with
   | own t u ex=>rw[hh]at hs;exact Stable.ren moreN hs
   | ro u=>rw[hh]at hs;exact Stable.ren moreN hs
   | raw o=>trivial
   | gone=>trivial
   | dead=>trivial
  ·rw[holdj j hc]
   exact HB.stable_more (R.st j) more
 ·intro j
  by_cases hc:m≤j∧j < m+k
  ·rw[hnewj j hc.1 hc.2]
   exact holds_ren hrb (hnew (n0+(j - m)) (by omega)).1 (hβn j hc.1 hc.2) (R1.blk _)
  ·rw[holdj j hc]
   refine holds_env (R.st j) agree (hβo j hc).symm (holds_world (R.blk j) fun a ha hk'=>R1.frame a.block ?_ id)
   rcases hk' with hk'|⟨u,hu,hz⟩
   ·exact R.lt j a hk' ha
   ·exact Nat.lt_of_lt_of_le (R.ro j u a hu ha hz).1 R.size
 ·intro j a hmj ha
  rcases mineN j hmj with ⟨h1,h3,h4⟩|⟨hc,h4⟩
  ·exact .inl (Nat.le_trans R.size (newHi j a h1 h3 h4 ha).1)
  ·rw[hβo j hc]at ha
   exact R.own j a h4 ha
 ·intro j u a hu ha hz
  by_cases hc:m≤j∧j < m+k
  ·rw[hnewj j hc.1 hc.2]at hu
   have hs:=(hnew (n0+(j - m)) (by omega)).2
   cases hh:hp L1 (n0+(j - m))<;>rw[hh]at hu hs<;>cases hu
   cases hs
  ·rw[holdj j hc]at hu
   rw[hβo j hc]at ha
   exact R.ro j u a hu ha hz
 ·intro i j ai aj hne hmi hmj hai haj
  rcases mineN i hmi with ⟨h1,h3,h4⟩|⟨hc,h4⟩
  ·rcases mineN j hmj with ⟨g1,g3,g4⟩|⟨gc,g4⟩
   ·rw[hβn i h1 h3]at hai
    rw[hβn j g1 g3]at haj
    exact R1.dist _ _ ai aj (by omega) h4 g4 hai haj
   ·have:=(newHi i ai h1 h3 h4 hai).1
    rw[hβo j gc]at haj
    have:=R.lt j aj g4 haj
    omega
  ·rcases mineN j hmj with ⟨g1,g3,g4⟩|⟨gc,g4⟩
   ·have:=(newHi j aj g1 g3 g4 haj).1
    rw[hβo i hc]at hai
    have:=R.lt i ai h4 hai
    omega
   ·rw[hβo i hc]at hai
    rw[hβo j gc]at haj
    exact R.dist i j ai aj hne h4 g4 hai haj
 ·intro j a hmj ha
  rcases mineN j hmj with ⟨h1,h3,h4⟩|⟨hc,h4⟩
  ·exact(newHi j a h1 h3 h4 ha).2
  ·rw[hβo j hc]at ha
   exact Nat.lt_of_lt_of_le (R.lt j a h4 ha) R1.size
theorem newB_mem {ρ : Nat→Nat}:∀{l:List HB} {m j:Nat},m≤j→j < m+l.length→∃b,(j,b)∈newB ρ m l
 | [],m,j,h1,h2=>by simp at h2;omega
 | b::l,m,j,h1,h2=>by
  by_cases h:j=m
  ·subst h;exact⟨_,.head _⟩
  ·obtain⟨b',hb⟩:=newB_mem (ρ:=ρ) (l:=l) (m:=m+1) (j:=j) (by omega) (by simp at h2;omega)
   exact⟨b',.tail _ hb⟩
def NewL (h:HM):List HB→Prop
 | []=>True
 | b::l=>(b.stable h∧b.isRo=false)∧NewL h l
theorem newL_get {h:HM}:∀{l:List HB},NewL h l→∀j,(l.getD j .dead).stable h∧(l.getD j .dead).isRo=false
 | [],_,j=>by simp[HB.stable,HB.isRo]
 | b::l,hl,0=>hl.1
 | b::l,hl,j+1=>by rw[List.getD_cons_succ];exact newL_get hl.2 j
theorem newL_spec {h:HM}{n0:Nat}{L1:List HB}(hl:NewL h (L1.drop n0)):∀i,n0≤i→(hp L1 i).stable h∧(hp L1 i).isRo=false:=fun i hi=>by
 have:=newL_get hl (i - n0)
 rw[List.getD_eq_getElem?_getD,List.getElem?_drop,show n0+(i - n0)=i by omega]at this
 unfold hp
 rw[List.getD_eq_getElem?_getD]
 exact this
theorem y9_ {P:Program}{f:FuncId}{args:List SV}{views:List View}{L1:List HB}{v:SV}{w0 w:World}{M:Nat→Prop}{β : Env}{h h':HM}{m:Nat}{vals:List Value}(H:yc_ P f args (.gone::viewL views) v L1)(hok:∀x∈views,x.Ok w)(R:Rep w0 M β h' w)(hm:∀i,m≤i→h i=.dead)
  (hwr:∀p∈newB (rho ((viewL views).length+1) m) m (L1.drop ((viewL views).length+1)),h' p.1=h p.1)
  (hargs:∀β1:Env,Vd β1 1 views→denL β1 args=vals) (hnew:NewL (hN ((viewL views).length+1) L1) (L1.drop ((viewL views).length+1))) (hv:Stable (hN ((viewL views).length+1) L1) v) :
  Calls P f vals.toArray w fun e w'=>∃β',(∀i,(h' i).born=true→β i = β' i)∧Rep w0 M β' (wrs h' (newB (rho ((viewL views).length+1) m) m (L1.drop ((viewL views).length+1)))) w'∧Stable (wrs h' (newB (rho ((viewL views).length+1) m) m (L1.drop ((viewL views).length+1)))) (v.ren (rho ((viewL views).length+1) m))∧e=.returned ((v.ren (rho ((viewL views).length+1) m)).den β'):=by
 obtain⟨β1,a1,R0,d1⟩:=handedAll views hok (start w)
 rw[←hargs β1 d1]
 refine(H w _ β1 w R0).mono fun e w' ⟨β2,k1,R2,k3,k4⟩=>?_
 obtain ⟨β', g1, g2, g3, g4⟩ := graftRo R R2 (Nat.succ_pos _) (fun i hi hlt=>by
  obtain⟨b,hb⟩:=newB_mem (ρ:=rho ((viewL views).length+1) m) (l:=L1.drop ((viewL views).length+1)) hi (by rw[List.length_drop];exact hlt)
  exact(hwr _ hb).trans (hm i hi)) (newL_spec hnew) hv
 exact⟨β',g1,g2,g3,by rw[k4,g4]⟩
theorem post_read {w0 w:World}{M:Nat→Prop}{β : Env}{h':HM}{v:SV}{x:Value}{e:Ending}{w':World}(R:Rep w0 M β h' w)(hs:Stable h' v)(hx:x=v.den β)(he:e=.returned x)(hb:Below w.heap.size w w') :
  ∃β',(∀i,(h' i).born=true→β i = β' i)∧Rep w0 M β' (wrs h' []) w'∧Stable (wrs h' []) v∧e=.returned (v.den β'):=
 ⟨β,fun _ _=>rfl,R.below hb,hs,by rw[he,hx]⟩
def named (P:Program)(f:FuncId):Bool:=match P.funcs[f]? with
 | some fn => !(fn.name == "runtime.NumGoroutine") && !fn.body.isNone
 | none=>false
theorem zf_ {P : Program} {f : FuncId} (h : named P f = true) : ∃ fn, P.funcs[f]? = some fn ∧ (fn.name == "runtime.NumGoroutine") = false ∧ fn.body.isNone = false := by
 unfold named at h
 split at h
 ·rename_i fn hf
  rw[Bool.and_eq_true]at h
  exact⟨fn,hf,by simpa using h.1,by simpa using h.2⟩
 ·cases h
theorem look2_mem {α : Type}:∀{l:List (Nat×α)} {t:Nat} {v:α},xb_ l t=some v→(t,v)∈l
 | [],t,v,h=>by cases h
 |(k,x)::l,t,v,h=>by
  simp only[xb_]at h
  cases hb:Nat.beq k t with
  | true=>
   rw[hb]at h
   have:=Nat.eq_of_beq_eq_true hb
   subst this
   injection h with h;subst h
   exact .head _
  | false=>rw[hb]at h;exact .tail _ (look2_mem h)
def allOk (P:Program):List (Nat×yr_)→Prop
 | []=>True
 | p::l=>zh_ P p.1 p.2∧allOk P l
theorem zn_ {P:Program}:∀{l:List (Nat×yr_)},allOk P l→∀f S,xb_ l f=some S→zh_ P f S:=fun {l} hl f S h=>by
 have:=look2_mem h
 clear h
 induction l with
 | nil=>cases this
 | cons p l ih=>
  rcases List.mem_cons.1 this with e|e
  ·subst e;exact hl.1
  ·exact ih hl.2 e
theorem yp_ {β : Env}(l:List SV):(SV.agg l).den β = .agg ((denL β l).flatMap fun v=>v.cells.toList.map sane).toArray:=rfl
theorem yo_ {β : Env}(k:IntKind)(n:Int):(SV.int k n).den β = .int k n:=rfl
theorem yn_ {β : Env}(k:IntKind)(n:Nat):(SV.nat k n).den β = .int k (n:Int):=rfl
theorem z6_ {β : Env}(b:Bool):(SV.bool b).den β = .bool b:=rfl
theorem den_insOf {v:SV}{β : Env}(h:isIns v=true):v.den β =(zg_ v).v:=by
 have ha:v.isAgg=true:=by cases v<;>first|rfl |(cases h;done)
 rw[den_agg ha,isIns_cl h];rfl
theorem den_insS {β : Env}(i:Ins):(insS i).den β = i.v:=rfl
theorem r8Den {β β1:Env}{f:Nat→SV}(h:∀q,q < 8→isI .i64 (f q)=true):(SV.arr 8 1 f).den β =(SV.arr 8 1 fun q=>.int .i64 (iOf (f q))).den β1:=by
 rw[den_agg rfl,den_agg rfl,cl_arr',cl_arr',elems_i64 h,elems_i64 (fun _ _=>rfl)]
 rfl
def prS (p:List Ins):Nat→SV:=fun q=>insS (p.getD q ⟨0,0,0,0,0⟩)
theorem prS_stable {h:HM}{p:List Ins}(q:Nat):Stable h (prS p q):=by simp[prS,insS,Stable,zd_]
theorem elems_prS {β : Env}(p:List Ins):zx_ β 5 p.length (prS p)=insV p:=by
 rw[elems_ins fun q _=>rfl]
 congr 1
 exact ls_of zv_ p _
def i64S (l:List Int):Nat→SV:=fun q=>.int .i64 (l.getD q 0)
def zt_ (l:List Snd):Nat→SV:=fun q=>sndS (l.getD q ⟨0,0,0⟩)
theorem i64S_stable {h:HM}{l:List Int}(q:Nat):Stable h (i64S l q):=trivial
theorem sndsS_stable {h:HM}{l:List Snd}(q:Nat):Stable h (zt_ l q):=by simp[zt_,sndS,Stable,zd_]
theorem elems_i64S {β : Env}(l:List Int):zx_ β 1 l.length (i64S l)=int64s l:=by
 rw[elems_i64 fun q _=>rfl]
 congr 1
 exact ls_of (g:=iOf) (e:=fun x=>.int .i64 x) (fun _=>rfl) l 0
theorem elems_sndsS {β : Env}(l:List Snd):zx_ β 3 l.length (zt_ l)=sndsV l:=by
 rw[elems_snd fun q _=>rfl]
 congr 1
 exact ls_of zu_ l _
section
variable {w:World} {β : Env} {A:Option Addr} {n cap:Nat} {f:Nat→SV}
theorem xl_ (hr:yh_ w w.heap.size 1 A n (zx_ β 1 n f))(hn:n≤cap)(hf:∀q,q < n→isI .i64 (f q)=true):(View.mk 1 (ls iOf n f).length (i64S (ls iOf n f)) A cap).Ok w:=
 ⟨fun β'=>by rw[elems_i64S,zb_];rwa [elems_i64 hf]at hr,by rw[zb_];exact hn,fun h q=>i64S_stable q,Nat.succ_pos _⟩
theorem xq_ (hr:yh_ w w.heap.size 5 A n (zx_ β 5 n f))(hn:n≤cap)(hf:∀q,q < n→isIns (f q)=true):(View.mk 5 (ls zg_ n f).length (prS (ls zg_ n f)) A cap).Ok w:=
 ⟨fun β'=>by rw[elems_prS,zb_];rwa [elems_ins hf]at hr,by rw[zb_];exact hn,fun h q=>prS_stable q,Nat.succ_pos _⟩
theorem viewSnd (hr:yh_ w w.heap.size 3 A n (zx_ β 3 n f))(hn:n≤cap)(hf:∀q,q < n→isSnd (f q)=true):(View.mk 3 (ls xm_ n f).length (zt_ (ls xm_ n f)) A cap).Ok w:=
 ⟨fun β'=>by rw[elems_sndsS,zb_];rwa [elems_snd hf]at hr,by rw[zb_];exact hn,fun h q=>sndsS_stable q,Nat.succ_pos _⟩
end
end Go.Proofs.Ytjliakjbdcplcaa.Vm
end

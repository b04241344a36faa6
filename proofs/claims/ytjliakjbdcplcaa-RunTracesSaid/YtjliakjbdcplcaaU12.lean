import Derived.Test.YtjliakjbdcplcaaU1
import Derived.Test.YtjliakjbdcplcaaU11
set_option linter.unusedSimpArgs false
set_option linter.unusedVariables false
set_option maxRecDepth 100000
set_option maxHeartbeats 4000000
section
namespace Go.Proofs.Ytjliakjbdcplcaa.Vm
open Go.RowKit
def y6_ (l:List Nat)(m:Nat):Nat→Nat:=fun i=>if i < l.length then l.getD i 0 else m+(i - l.length)
def noMine:List HB→Bool
 | []=>true
 | b::l=>!b.mine && noMine l
theorem noMine_spec:∀{L:List HB},noMine L=true→∀i,(hp L i).mine=false
 | [],_,i=>by unfold hp;simp[HB.mine]
 | b::l,h,0=>by
  simp only[noMine,Bool.and_eq_true,Bool.not_eq_true']at h
  exact h.1
 | b::l,h,i+1=>by
  simp only[noMine,Bool.and_eq_true]at h
  have:=noMine_spec h.2 i
  unfold hp at this ⊢
  simpa using this
def FitL (ρ : Nat→Nat)(h:HM):List HB→List Nat→Prop
 | [],_=>True
 | b::l,n=>match n with
  | j::n=>Fit ρ b (h j)∧FitL ρ h l n
  | []=>False
theorem fitL_get {ρ : Nat→Nat}{h:HM}:∀{L:List HB} {l:List Nat},FitL ρ h L l→∀i,i < L.length→Fit ρ (hp L i) (h (l.getD i 0))
 | [],l,_,i,hi=>by simp at hi
 | b::L,[],hf,_,_=>by exact hf.elim
 | b::L,j::l,hf,0,_=>hf.1
 | b::L,j::l,hf,i+1,hi=>by
  have:=fitL_get hf.2 i (by simpa using hi)
  unfold hp at this ⊢
  simpa using this
def hG (n0:Nat)(L0 L1:List HB):HM:=fun i=>if i < n0 then hp L0 i else hp L1 i
theorem laid_ro {L0 L1:List HB}{h:HM}{l:List Nat}{m:Nat}{v:SV}(hlen:l.length=L0.length)(hpos:0 < L0.length)(h00:l.getD 0 0=0)(hz:hp L0 0=.gone)(hno:noMine L0=true)(hfit:FitL (y6_ l m) h L0 l)(hm:∀i,m≤i→i < m+(L1.length - L0.length)→h i=.dead)(hle:L0.length≤L1.length)
  (hst0:yk_ (hp L0) L0) (hstb:∀j,(h j).stable h) (hnew:NewL (hG L0.length L0 L1) (L1.drop L0.length)) (hv:Stable (hG L0.length L0 L1) v) :
  Laid L0 L1 h (wrs h (newB (y6_ l m) m (L1.drop L0.length))) (y6_ l m) m v:=by
 obtain⟨k,hk⟩:∃k,k=L1.length - L0.length:=⟨_,rfl⟩
 have hdl:(L1.drop L0.length).length=k:=by rw[List.length_drop,hk]
 have hrl:∀i,i < L0.length→y6_ l m i=l.getD i 0:=fun i hi=>if_pos (by omega)
 have hrn:∀i,L0.length≤i→y6_ l m i=m+(i - L0.length):=fun i hi=>by
  unfold y6_;rw[if_neg (by omega),hlen]
 have hmin:=noMine_spec hno
 have hget:∀j,m≤j→(L1.drop L0.length).getD (j - m) .dead=hp L1 (L0.length+(j - m)):=fun j hj=>by
  unfold hp
  rw[List.getD_eq_getElem?_getD,List.getD_eq_getElem?_getD,List.getElem?_drop]
 have hnewj:∀j,m≤j→j < m+k→wrs h (newB (y6_ l m) m (L1.drop L0.length)) j=(hp L1 (L0.length+(j - m))).ren (y6_ l m):=fun j h1 h3=>by
  rw[wrs_newB,if_pos ⟨h1,by omega⟩,hget j h1]
 have holdj:∀j,¬(m≤j∧j < m+k)→wrs h (newB (y6_ l m) m (L1.drop L0.length)) j=h j:=fun j hj=>by
  rw[wrs_newB,if_neg (by rw[hdl];exact hj)]
 have bornold:∀j,(h j).born=true→¬(m≤j∧j < m+k):=fun j hj hc=>by
  rw[hm j hc.1 (by omega)]at hj;cases hj
 have more:∀i,(h i).born=true→(wrs h (newB (y6_ l m) m (L1.drop L0.length)) i).born=true:=fun i hi=>by rw[holdj i (bornold i hi)];exact hi
 have hfit':∀i,i < L0.length→Fit (y6_ l m) (hp L0 i) (h (y6_ l m i)):=fun i hi=>by rw[hrl i hi];exact fitL_get hfit i hi
 have moreG:∀i,(hG L0.length L0 L1 i).born=true→(wrs h (newB (y6_ l m) m (L1.drop L0.length)) (y6_ l m i)).born=true:=fun i hi=>by
  unfold hG at hi
  split at hi
  ·rename_i hlt
   exact more _ (hfit' i hlt).born
  ·rename_i hge
   have hlt:i < L1.length:=by
    rcases Nat.lt_or_ge i L1.length with h'|h'
    ·exact h'
    ·rw[xc_ h']at hi;cases hi
   rw[hrn i (by omega),hnewj _ (by omega) (by omega),show L0.length+(m+(i - L0.length) - m)=i by omega]
   cases hh:hp L1 i<;>rw[hh]at hi<;>first|rfl |(cases hi;done)
 have hnewS:=newL_spec hnew
 refine { z:=by rw[hrl 0 hpos,h00],z0:=hz,new:=fun i hi=>hrn i hi,pre:=hfit',inj:=fun i j hi hj hne hmi=>absurd hmi (by rw[hmin i];exact Bool.false_ne_true),img:=fun i hi hmi=>absurd hmi (by rw[hmin i];exact Bool.false_ne_true),old:=fun j hj _=>holdj j (bornold j hj),fresh:=fun j hj=>?_,un:=fun i hi hb=>?_,st0:=xr_ hst0,st2:=fun j=>?_,stv:=hv.ren moreG }
 ·by_cases hc:m≤j∧j < m+k
  ·exact .inr ⟨hc.1,hnewj j hc.1 hc.2,(hnewS _ (by omega)).2⟩
  ·left
   rw[holdj j hc]
   cases hh:h j<;>rw[hh]at hj<;>first|rfl |(cases hj;done)
 ·exact d14_
 ·by_cases hc:m≤j∧j < m+k
  ·rw[hnewj j hc.1 hc.2]
   have hs:=(hnewS (L0.length+(j - m)) (by omega)).1
   cases hh:hp L1 (L0.length+(j - m))with
   | own t u ex=>rw[hh]at hs;exact Stable.ren moreG hs
   | ro u=>rw[hh]at hs;exact Stable.ren moreG hs
   | raw o=>trivial
   | gone=>trivial
   | dead=>trivial
  ·rw[holdj j hc]
   have:(h j).stable h:=hstb j
   exact HB.stable_more this more
theorem callG {P:Program}{f:FuncId}{args:List SV}{L0 L1:List HB}{v:SV}{w0 w:World}{M:Nat→Prop}{β : Env}{h h':HM}{m:Nat}(l:List Nat)(H:yc_ P f args L0 v L1)(R:Rep w0 M β h' w)(hlen:l.length=L0.length)(hpos:0 < L0.length)(h00:l.getD 0 0=0)(hz:hp L0 0=.gone)(hno:noMine L0=true)(hfit:FitL (y6_ l m) h' L0 l)
  (hm:∀i,m≤i→h i=.dead) (hwr:∀p∈newB (y6_ l m) m (L1.drop L0.length),h' p.1=h p.1) (hle:L0.length≤L1.length)
  (hst0:yk_ (hp L0) L0) (hsta:zd_ (hp L0) args) (hnew:NewL (hG L0.length L0 L1) (L1.drop L0.length)) (hv:Stable (hG L0.length L0 L1) v) :
  Calls P f (denL β (renL (y6_ l m) args)).toArray w fun e w'=>∃β',(∀i,(h' i).born=true→β i = β' i)∧Rep w0 M β' (wrs h' (newB (y6_ l m) m (L1.drop L0.length))) w'∧Stable (wrs h' (newB (y6_ l m) m (L1.drop L0.length))) (v.ren (y6_ l m))∧e=.returned ((v.ren (y6_ l m)).den β'):=
 call_lit H R (laid_ro hlen hpos h00 hz hno hfit (fun i hi hlt=>by
  obtain⟨b,hb⟩:=newB_mem (ρ:=y6_ l m) (l:=L1.drop L0.length) hi (by rw[List.length_drop];exact hlt)
  exact(hwr _ hb).trans (hm i hi)) hle hst0 R.st hnew hv) hsta
def sg (l:List Nat):Nat→Nat:=fun i=>l.getD i 0
def PickL (σ : Nat→Nat)(h:HM):List HB→List Nat→Prop
 | [],_=>True
 | b::l,n=>match n with
  | j::n=>(b=.gone∨Less (h j) (b.ren σ))∧PickL σ h l n
  | []=>False
theorem pickL_get {σ : Nat→Nat}{h:HM}:∀{L:List HB} {l:List Nat},PickL σ h L l→∀i,i < L.length→hp L i=.gone∨Less (h (l.getD i 0)) ((hp L i).ren σ)
 | [],l,_,i,hi=>by simp at hi
 | b::L,[],hf,_,_=>by exact hf.elim
 | b::L,j::l,hf,0,_=>hf.1
 | b::L,j::l,hf,i+1,hi=>by
  have:=pickL_get hf.2 i (by simpa using hi)
  unfold hp at this ⊢
  simpa using this
def injL:List HB→List Nat→List Nat→Bool
 | [],_,_=>true
 | b::L,l,seen=>match l with
  | j::l=>bif b.mine then !memN j seen && injL L l (j::seen)else injL L l seen
  | []=>false
theorem injL_seen:∀{L:List HB} {l seen:List Nat},injL L l seen=true→∀i,i < L.length→(hp L i).mine=true→l.getD i 0 ∉ seen
 | [],l,seen,_,i,hi,_=>by simp at hi
 | b::L,[],seen,h,_,_,_=>by cases h
 | b::L,j::l,seen,h,i,hi,hm=>by
  simp only[injL]at h
  cases i with
  | zero=>
   have hb:b.mine=true:=hm
   rw[hb]at h
   simp only[cond_true,Bool.and_eq_true,Bool.not_eq_true']at h
   intro hc
   have:=memN_iff.2 hc
   simp only[List.getD_cons_zero]at this
   rw[h.1]at this
   cases this
  | succ i=>
   have hm':(hp L i).mine=true:=by unfold hp at hm ⊢;simpa using hm
   rw[List.getD_cons_succ]
   cases hb:b.mine with
   | false=>rw[hb]at h;exact injL_seen h i (by simpa using hi) hm'
   | true=>
    rw[hb]at h
    simp only[cond_true,Bool.and_eq_true]at h
    exact fun hc=>injL_seen h.2 i (by simpa using hi) hm' (.tail _ hc)
theorem injL_spec:∀{L:List HB} {l seen:List Nat},injL L l seen=true→∀i j,i < j→j < L.length→(hp L i).mine=true→(hp L j).mine=true→l.getD i 0≠l.getD j 0
 | [],l,seen,_,i,j,_,hj,_,_=>by simp at hj
 | b::L,[],seen,h,_,_,_,_,_,_=>by cases h
 | b::L,k::l,seen,h,i,j,hij,hj,hi,hjm=>by
  simp only[injL]at h
  obtain⟨j,rfl⟩:∃j',j=j'+1:=⟨j - 1,by omega⟩
  have hj':j < L.length:=by simpa using hj
  have hjm':(hp L j).mine=true:=by unfold hp at hjm ⊢;simpa using hjm
  rw[List.getD_cons_succ]
  cases i with
  | zero=>
   have hb:b.mine=true:=hi
   rw[hb]at h
   simp only[cond_true,Bool.and_eq_true]at h
   rw[List.getD_cons_zero]
   exact fun e=>injL_seen h.2 j hj' hjm' (by rw[←e];exact .head _)
  | succ i=>
   have hi':(hp L i).mine=true:=by unfold hp at hi ⊢;simpa using hi
   rw[List.getD_cons_succ]
   cases hb:b.mine with
   | false=>rw[hb]at h;exact injL_spec h i j (by omega) hj' hi' hjm'
   | true=>
    rw[hb]at h
    simp only[cond_true,Bool.and_eq_true]at h
    exact injL_spec h.2 i j (by omega) hj' hi' hjm'
theorem Rep.pick {w0 w:World}{M:Nat→Prop}{β : Env}{h:HM}{L:List HB}{l:List Nat}(R:Rep w0 M β h w)(h0:l.getD 0 0=0)(hz:hp L 0=.gone)(hp_:PickL (sg l) h L l)(hi:injL L l []=true)(hs:yk_ (hp L) L):Rep w0 M (fun i=>β (sg l i)) (hp L) w:=by
 have get:∀i,(hp L i)=.dead∨hp L i=.gone∨(i < L.length∧Less (h (sg l i)) ((hp L i).ren (sg l))):=fun i=>by
  rcases Nat.lt_or_ge i L.length with hlt|hge
  ·rcases pickL_get hp_ i hlt with e|e
   ·exact .inr (.inl e)
   ·exact .inr (.inr ⟨hlt,e⟩)
  ·exact .inl (xc_ hge)
 have mine:∀i,(hp L i).mine=true→i < L.length∧(h (sg l i)).mine=true:=fun i hm=>by
  rcases get i with e|e|⟨hlt,e⟩
  ·rw[e]at hm;cases hm
  ·rw[e]at hm;cases hm
  ·refine⟨hlt,less_mine e ?_⟩
   cases hh:hp L i<;>rw[hh]at hm<;>first|rfl |(cases hm;done)
 refine { os:=R.os,tape:=R.tape,output:=R.output,size:=R.size,frame:=R.frame,nil:=?_,nil0:=hz,st:=xr_ hs,blk:=fun i=>?_,own:=fun i a hm ha=>R.own _ a (mine i hm).2 ha,ro:=fun i v a hv ha hzz=>?_,dist:=fun i j ai aj hne hmi hmj hai haj=>?_,lt:=fun i a hm ha=>R.lt _ a (mine i hm).2 ha }
 ·show β (l.getD 0 0)=_
  rw[h0];exact R.nil
 ·rcases get i with e|e|⟨hlt,e⟩
  ·rw[e];trivial
  ·rw[e];trivial
  ·have hB:=R.blk (sg l i)
   exact holds_unren (β:=fun i=>β (sg l i)) (β':=β) (h:=hp L) (ρ:=sg l) (fun _ _=>rfl) (xr_ hs i) rfl (holds_less e hB)
 ·rcases get i with e|e|⟨hlt,e⟩
  ·rw[e]at hv;cases hv
  ·rw[e]at hv;cases hv
  ·rw[hv]at e
   exact R.ro _ (v.ren (sg l)) a (less_ro e) ha (by rw[size_ren];exact hzz)
 ·have h1:=mine i hmi
  have h2:=mine j hmj
  refine R.dist _ _ ai aj ?_ h1.2 h2.2 hai haj
  rcases Nat.lt_or_ge i j with hlt|hge
  ·exact injL_spec hi i j hlt h2.1 hmi hmj
  ·exact fun e=>injL_spec hi j i (by omega) h1.1 hmj hmi e.symm
def idTo (n:Nat)(l:List Nat):Bool:=(List.range n).all fun i=>Nat.beq (l.getD i 0) i
section
variable {P:Program} {T:Tab} {w0 w1:World} {M M1:Nat→Prop} {E:Env} {n0 N n:Nat} {D1:List Deferred} {φ : Fr} {L L2:List HB}
theorem At.endsPick (l:List Nat)(hT:TabOk P T){fn:Func}{c:Prop}{vs:List SV}{v:SV}{rs:List ResultVar}{L0:List HB}(A:Anc w0 M [] w1 M1 D1)(hro:RoOk w0 M E L0)(hL0:L0.length≤n0)(hrs:fn.results.toList=rs)(hr:resV T φ (hp L) rs=some (c,vs))(hc:c)(h00:l.getD 0 0=0)(hz:hp L2 0=.gone)(hid:idTo n0 l=true)(hpk:PickL (sg l) (hp L) L2 l)(hinj:injL L2 l []=true)(hs:yk_ (hp L2) L2)(hsub:RoSub L L0)(hv:∀β,(resS vs).den β =(v.ren (sg l)).den β)(hst:Stable (hp L2) v) :
  At w1 M1 E n0 N D1 φ L (EndsM n P fn w0 M E n0 v L2 .ret):=fun a w hS=>by
 obtain⟨⟨β,hE,R,F⟩,hbn,_,hd⟩:=hS
 subst hrs
 have R0:Rep w0 M β (hp L) w:=R.back A fun i u a hi ha hz=>by
  obtain⟨h1,h2⟩:=roSub_spec hsub i u hi
  exact hro i u a h1 (by rw[←hE i (Nat.lt_of_lt_of_le h2 hL0)];exact ha) hz
 obtain⟨rs,d1,n1,k1⟩:=A.marks
 simp only[EndsM,bodyPostM,hd,d1,List.append_nil]
 refine leaves_marks (β:=β) (h:=hp L) rs w R0 n1 (fun r hr=>?_) (fun w' R'=>?_)
 ·exact d13_
 ·obtain⟨q1,q2⟩:=resV_ok ⟨hT,R',F⟩ hr hc
  refine⟨_,q2,fun i=>β (sg l i),fun i hi=>?_,R'.pick h00 hz hpk hinj hs,hst,?_⟩
  ·exact d15_
  ·rw[hv]
   congr 1
   exact den_ren (h:=hp L2) (fun _ _=>rfl) hst
end
theorem hp_append1 (L:List HB)(x:HB):hp (L++[x])=upd (hp L) L.length x:=by
 funext i
 unfold hp upd
 by_cases h2:i=L.length
 ·subst h2;simp
 ·rw[if_neg h2]
  rcases Nat.lt_or_ge i L.length with h|h
  ·simp[List.getElem?_append_left h]
  ·simp[List.getElem?_eq_none (show (L++[x]).length≤i by simp;omega),List.getElem?_eq_none h]
theorem At.nil {w0:World}{M:Nat→Prop}{E:Env}{n0 N:Nat}{D:List Deferred}{φ : Fr}{L:List HB}{K:Act→World→Prop}(t:Tmp)(ty k:Nat)(f:Nat→SV)(hl:look φ t=some (.sl 0 0 [] 0 0 0 (some 0)))(hf:∀(h:HM) (q:Nat),Stable h (f q))
  (h:At w0 M E n0 N D ((t,.sl L.length L.length [] k 0 0 none) :: φ) (L++[.own ty (.arr 0 k f) false]) K):At w0 M E n0 N D φ L K:=fun a w hS=>by
 obtain⟨⟨β,hE,R,F⟩,hbn,hsz,hd⟩:=hS
 have hm:hp L L.length=.dead:=xc_ (Nat.le_refl _)
 have R1:=nothing R (e:=ty) (k:=k) (g:=f) hm (fun q=>hf _ q)
 have hag:∀i,(hp L i).born=true→β i=setE β L.length (none,0) i:=z4_ hm
 have hborn:∀i,(hp L i).born=true→(upd (hp L) L.length (.own ty (.arr 0 k f) false) i).born=true:=fun i hi=>by
  unfold Vm.upd;split
  ·rfl
  ·exact hi
 refine h a w ⟨⟨setE β L.length (none,0),fun i hi=>(hag i (hbn i hi)).symm.trans (hE i hi),by rw[hp_append1];exact R1,fun u v hu=>?_⟩,fun i hi=>by rw[hp_append1];exact hborn i (hbn i hi),hsz,hd⟩
 rw[hp_append1]
 simp only[look]at hu
 cases hq:Nat.beq t u with
 | true=>
  rw[hq]at hu
  have:=Nat.eq_of_beq_eq_true hq
  subst this
  injection hu with hu
  subst hu
  refine⟨?_,?_⟩
  ·simp only[Stable,zs_];exact⟨rfl,rfl⟩
  ·rw[(F t _ hl).2]
   simp[SV.den,z2_,R.nil]
 | false=>
  rw[hq]at hu
  obtain⟨k1,k2⟩:=F u v hu
  exact⟨k1.more hborn,by rw[k2];exact k1.den hag⟩
end Go.Proofs.Ytjliakjbdcplcaa.Vm
end
section
namespace Go.Proofs.Ytjliakjbdcplcaa.Vm
open Go.RowKit
def oldB (ρ : Nat→Nat):List HB→List HB→List Nat→List (Nat×HB)
 | [],_,_=>[]
 | b::L0,L1,l=>match L1,l with
  | c::L1,j::l=>bif b.mine then(j,c.ren ρ)::oldB ρ L0 L1 l else oldB ρ L0 L1 l
  | _,_=>[]
def mrgL:List HB→List HB→List HB
 | [],L1=>L1
 | b::L0,L1=>match L1 with
  | c::L1=>(bif b.mine then c else b)::mrgL L0 L1
  | []=>[]
def noRo2:List HB→List HB→Bool
 | [],L1=>L1.all fun c=>!c.isRo
 | b::L0,L1=>match L1 with
  | c::L1=>(!b.mine ||(c.born && !c.isRo)) && noRo2 L0 L1
  | []=>true
theorem hp_cons (b:HB)(L:List HB)(i:Nat):hp (b::L) (i+1)=hp L i:=by unfold hp;simp
theorem hp_zero (b:HB)(L:List HB):hp (b::L) 0=b:=by unfold hp;simp
theorem noRo2_old:∀{L0 L1:List HB},noRo2 L0 L1=true→L0.length≤L1.length→∀i,i < L0.length→(hp L0 i).mine=true→(hp L1 i).born=true∧(hp L1 i).isRo=false
 | [],_,_,_,i,hi,_=>by simp at hi
 | b::L0,[],_,hl,_,_,_=>by simp at hl
 | b::L0,c::L1,h,hl,i,hi,hm=>by
  simp only[noRo2,Bool.and_eq_true,Bool.or_eq_true,Bool.not_eq_true']at h
  cases i with
  | zero=>
   rw[hp_zero]at hm
   rw[hp_zero]
   rcases h.1 with h1|h1
   ·rw[hm]at h1;cases h1
   ·exact h1
  | succ i=>
   rw[hp_cons]at hm
   rw[hp_cons]
   exact noRo2_old h.2 (by simpa using hl) i (by simpa using hi) hm
theorem noRo2_new:∀{L0 L1:List HB},noRo2 L0 L1=true→L0.length≤L1.length→∀i,L0.length≤i→(hp L1 i).isRo=false
 | [],L1,h,_,i,_=>by
  simp only[noRo2,List.all_eq_true]at h
  unfold hp
  rw[List.getD_eq_getElem?_getD]
  cases hh:L1[i]? with
  | none=>rfl
  | some x=>simpa using h x (List.mem_of_getElem? hh)
 | b::L0,[],_,hl,_,_=>by simp at hl
 | b::L0,c::L1,h,hl,i,hi=>by
  simp only[noRo2,Bool.and_eq_true]at h
  cases i with
  | zero=>simp at hi
  | succ i=>
   rw[hp_cons]
   exact noRo2_new h.2 (by simpa using hl) i (by simpa using hi)
theorem mrgL_get:∀{L0 L1:List HB},L0.length≤L1.length→∀i,hp (mrgL L0 L1) i=if i < L0.length then(bif (hp L0 i).mine then hp L1 i else hp L0 i)else hp L1 i
 | [],L1,_,i=>by simp[mrgL]
 | b::L0,[],hl,_=>by simp at hl
 | b::L0,c::L1,hl,i=>by
  cases i with
  | zero=>simp[mrgL,hp_zero]
  | succ i=>
   simp only[mrgL,hp_cons]
   rw[mrgL_get (by simpa using hl) i]
   simp
theorem wrs_oldB_ne {ρ : Nat→Nat}:∀{L0 L1:List HB} {l:List Nat} {h:HM} {j:Nat},(∀i,i < L0.length→(hp L0 i).mine=true→l.getD i 0≠j)→wrs h (oldB ρ L0 L1 l) j=h j
 | [],_,_,h,j,_=>rfl
 | b::L0,[],l,h,j,_=>rfl
 | b::L0,c::L1,[],h,j,_=>rfl
 | b::L0,c::L1,k::l,h,j,hn=>by
  have ih := fun h' => wrs_oldB_ne (ρ := ρ) (L0 := L0) (L1 := L1) (l := l) (h := h') (j := j) (fun i hi hm=>by
   have:=hn (i+1) (by simpa using hi) (by rw[hp_cons];exact hm)
   simpa using this)
  cases hb:b.mine with
  | false=>simp only[oldB,hb,cond_false];exact ih h
  | true=>
   simp only[oldB,hb,cond_true]
   show wrs (upd h k (c.ren ρ)) (oldB ρ L0 L1 l) j=h j
   rw[ih,yb_ (fun e=>hn 0 (by simp) (by rw[hp_zero];exact hb) (by simpa using e.symm))]
theorem wrs_oldB {ρ : Nat→Nat}:∀{L0 L1:List HB} {l:List Nat} {h:HM},L0.length≤L1.length→l.length=L0.length→(∀i j,i < j→j < L0.length→(hp L0 i).mine=true→(hp L0 j).mine=true→l.getD i 0≠l.getD j 0)→∀i,i < L0.length→(hp L0 i).mine=true→wrs h (oldB ρ L0 L1 l) (l.getD i 0)=(hp L1 i).ren ρ
 | [],_,_,h,_,_,_,i,hi,_=>by simp at hi
 | b::L0,[],l,h,hl,_,_,_,_,_=>by simp at hl
 | b::L0,c::L1,[],h,_,hl,_,_,_,_=>by simp at hl
 | b::L0,c::L1,k::l,h,hle,hln,hn,i,hi,hm=>by
  cases i with
  | zero=>
   rw[hp_zero]at hm
   simp only[oldB,hm,cond_true,List.getD_cons_zero]
   show wrs (upd h k (c.ren ρ)) (oldB ρ L0 L1 l) k=_
   rw[wrs_oldB_ne (fun i hi hm' e=>hn 0 (i+1) (by omega) (by simpa using hi) (by rw[hp_zero];exact hm) (by rw[hp_cons];exact hm') (by simpa using e.symm)),zs_,hp_zero]
  | succ i=>
   rw[hp_cons]at hm
   have ih := fun h' => wrs_oldB (ρ := ρ) (L0 := L0) (L1 := L1) (l := l) (h := h') (by simpa using hle) (by simpa using hln) (fun a b hab hb ha hb'=>by
    have:=hn (a+1) (b+1) (by omega) (by simpa using hb) (by rw[hp_cons];exact ha) (by rw[hp_cons];exact hb')
    simpa using this) i (by simpa using hi) hm
   rw[List.getD_cons_succ,hp_cons]
   cases hb:b.mine with
   | false=>simp only[oldB,hb,cond_false];exact ih h
   | true=>
    simp only[oldB,hb,cond_true]
    exact ih (upd h k (c.ren ρ))
theorem wrs_app:∀(l:List (Nat×HB)) {m:List (Nat×HB)} {h:HM},wrs h (l++m)=wrs (wrs h l) m
 | [],_,_=>rfl
 | p::l,m,h=>wrs_app l
theorem laid_rw {L0 L1:List HB}{h:HM}{l:List Nat}{m:Nat}{v:SV}(hlen:l.length=L0.length)(hpos:0 < L0.length)(h00:l.getD 0 0=0)(hz:hp L0 0=.gone)(hfit:FitL (y6_ l m) h L0 l)(hinj:∀i j,i < L0.length→j < L0.length→i≠j→(hp L0 i).mine=true→(hp L0 j).mine=true∨(hp L0 j).isRo=true→l.getD i 0≠l.getD j 0)
  (hm:∀i,m≤i→i < m+(L1.length - L0.length)→h i=.dead) (hle:L0.length≤L1.length) (hno:noRo2 L0 L1=true)
  (hst0:yk_ (hp L0) L0) (hstb:∀j,(h j).stable h) (hst1:yk_ (hp (mrgL L0 L1)) (mrgL L0 L1)) (hv:Stable (hp (mrgL L0 L1)) v) :
  Laid L0 L1 h (wrs h (oldB (y6_ l m) L0 L1 l++newB (y6_ l m) m (L1.drop L0.length))) (y6_ l m) m v:=by
 rw[wrs_app]
 obtain⟨k,hk⟩:∃k,k=L1.length - L0.length:=⟨_,rfl⟩
 have hdl:(L1.drop L0.length).length=k:=by rw[List.length_drop,hk]
 have hrl:∀i,i < L0.length→y6_ l m i=l.getD i 0:=fun i hi=>if_pos (by omega)
 have hrn:∀i,L0.length≤i→y6_ l m i=m+(i - L0.length):=fun i hi=>by
  unfold y6_;rw[if_neg (by omega),hlen]
 have hget:∀j,m≤j→(L1.drop L0.length).getD (j - m) .dead=hp L1 (L0.length+(j - m)):=fun j hj=>by
  unfold hp
  rw[List.getD_eq_getElem?_getD,List.getD_eq_getElem?_getD,List.getElem?_drop]
 have hmr:=mrgL_get hle
 generalize hh1:wrs h (oldB (y6_ l m) L0 L1 l)=h1
 have hnewj:∀j,m≤j→j < m+k→wrs h1 (newB (y6_ l m) m (L1.drop L0.length)) j=(hp L1 (L0.length+(j - m))).ren (y6_ l m):=fun j h1 h3=>by
  rw[wrs_newB,if_pos ⟨h1,by omega⟩,hget j h1]
 have holdj:∀j,¬(m≤j∧j < m+k)→wrs h1 (newB (y6_ l m) m (L1.drop L0.length)) j=h1 j:=fun j hj=>by
  rw[wrs_newB,if_neg (by rw[hdl];exact hj)]
 have bornold:∀j,(h j).born=true→¬(m≤j∧j < m+k):=fun j hj hc=>by
  rw[hm j hc.1 (by omega)]at hj;cases hj
 have hfit':∀i,i < L0.length→Fit (y6_ l m) (hp L0 i) (h (y6_ l m i)):=fun i hi=>by rw[hrl i hi];exact fitL_get hfit i hi
 have hborn:∀i,i < L0.length→(h (l.getD i 0)).born=true:=fun i hi=>by rw[←hrl i hi];exact(hfit' i hi).born
 have him:∀i,i < L0.length→(hp L0 i).mine=true→h1 (l.getD i 0)=(hp L1 i).ren (y6_ l m):=fun i hi hmi=>by
  rw[←hh1]
  exact wrs_oldB hle hlen (fun a b hab hb ha hb'=>hinj a b (by omega) hb (by omega) ha (.inl hb')) i hi hmi
 have hne:∀j,(∀i,i < L0.length→(hp L0 i).mine=true→l.getD i 0≠j)→h1 j=h j:=fun j hj=>by
  rw[←hh1]
  exact wrs_oldB_ne hj
 have born_ren:∀{b:HB},b.born=true→(b.ren (y6_ l m)).born=true:=fun {b} hb=>by
  cases b<;>first|rfl |(cases hb;done)
 have more1:∀j,(h j).born=true→(h1 j).born=true:=fun j hj=>by
  by_cases hc:∃i,i < L0.length∧(hp L0 i).mine=true∧l.getD i 0=j
  ·obtain⟨i,hi,hmi,rfl⟩:=hc
   rw[him i hi hmi]
   exact born_ren (noRo2_old hno hle i hi hmi).1
  ·rw[hne j (fun i hi hmi e=>hc ⟨i,hi,hmi,e⟩)];exact hj
 have more:∀i,(h i).born=true→(wrs h1 (newB (y6_ l m) m (L1.drop L0.length)) i).born=true:=fun i hi=>by rw[holdj i (bornold i hi)];exact more1 i hi
 have moreG:∀i,(hp (mrgL L0 L1) i).born=true→(wrs h1 (newB (y6_ l m) m (L1.drop L0.length)) (y6_ l m i)).born=true:=fun i hi=>by
  rw[hmr i]at hi
  split at hi
  ·rename_i hlt
   exact more _ (hfit' i hlt).born
  ·rename_i hge
   have hlt:i < L1.length:=by
    rcases Nat.lt_or_ge i L1.length with h'|h'
    ·exact h'
    ·rw[xc_ h']at hi;cases hi
   rw[hrn i (by omega),hnewj _ (by omega) (by omega),show L0.length+(m+(i - L0.length) - m)=i by omega]
   exact born_ren hi
 have stG:=xr_ hst1
 have ren_st:∀{b:HB},b.stable (hp (mrgL L0 L1))→(b.ren (y6_ l m)).stable (wrs h1 (newB (y6_ l m) m (L1.drop L0.length))):=fun {b} hs=>by
  cases b with
  | own t u ex=>exact Stable.ren moreG hs
  | ro u=>exact Stable.ren moreG hs
  | raw o=>trivial
  | gone=>trivial
  | dead=>trivial
 refine { z:=by rw[hrl 0 hpos,h00],z0:=hz,new:=fun i hi=>hrn i hi,pre:=hfit',inj:=fun i j hi hj hne hmi hmj=>by rw[hrl i hi,hrl j hj];exact hinj i j hi hj hne hmi hmj,img:=fun i hi hmi=>?_,old:=fun j hj hno=>?_,fresh:=fun j hj=>?_,un:=fun i hi hb=>?_,st0:=xr_ hst0,st2:=fun j=>?_,stv:=hv.ren moreG }
 ·rw[hrl i hi,holdj _ (bornold _ (hborn i hi)),him i hi hmi]
  exact⟨rfl,(noRo2_old hno hle i hi hmi).2⟩
 ·rw[holdj j (bornold j hj)]
  exact hne j fun i hi hmi=>by rw[←hrl i hi];exact hno i hi hmi
 ·by_cases hc:m≤j∧j < m+k
  ·exact .inr ⟨hc.1,hnewj j hc.1 hc.2,noRo2_new hno hle _ (by omega)⟩
  ·left
   rw[holdj j hc,hne j (fun i hi hmi e=>by rw[←e,hborn i hi]at hj;cases hj)]
   cases hh:h j<;>rw[hh]at hj<;>first|rfl |(cases hj;done)
 ·exact d14_
 ·by_cases hc:m≤j∧j < m+k
  ·rw[hnewj j hc.1 hc.2]
   have hs:=stG (L0.length+(j - m))
   rw[hmr,if_neg (by omega)]at hs
   exact ren_st hs
  ·rw[holdj j hc]
   by_cases hc2:∃i,i < L0.length∧(hp L0 i).mine=true∧l.getD i 0=j
   ·obtain⟨i,hi,hmi,rfl⟩:=hc2
    rw[him i hi hmi]
    have hs:=stG i
    rw[hmr,if_pos hi,hmi]at hs
    exact ren_st hs
   ·rw[hne j (fun i hi hmi e=>hc2 ⟨i,hi,hmi,e⟩)]
    exact HB.stable_more (hstb j) more
theorem callRW {P:Program}{f:FuncId}{args:List SV}{L0 L1:List HB}{v:SV}{w0 w:World}{M:Nat→Prop}{β : Env}{h h':HM}{m:Nat}(l:List Nat)(H:yc_ P f args L0 v L1)(R:Rep w0 M β h' w)(hlen:l.length=L0.length)(hpos:0 < L0.length)(h00:l.getD 0 0=0)(hz:hp L0 0=.gone)(hfit:FitL (y6_ l m) h' L0 l)
  (hinj:∀i j,i < L0.length→j < L0.length→i≠j→(hp L0 i).mine=true→(hp L0 j).mine=true∨(hp L0 j).isRo=true→l.getD i 0≠l.getD j 0)
  (hm:∀i,m≤i→h i=.dead) (hwr:∀p∈newB (y6_ l m) m (L1.drop L0.length),h' p.1=h p.1) (hle:L0.length≤L1.length) (hno:noRo2 L0 L1=true)
  (hst0:yk_ (hp L0) L0) (hsta:zd_ (hp L0) args) (hst1:yk_ (hp (mrgL L0 L1)) (mrgL L0 L1)) (hv:Stable (hp (mrgL L0 L1)) v) :
  Calls P f (denL β (renL (y6_ l m) args)).toArray w fun e w'=>∃β',(∀i,(h' i).born=true→β i = β' i)∧Rep w0 M β' (wrs h' (oldB (y6_ l m) L0 L1 l++newB (y6_ l m) m (L1.drop L0.length))) w'∧Stable (wrs h' (oldB (y6_ l m) L0 L1 l++newB (y6_ l m) m (L1.drop L0.length))) (v.ren (y6_ l m))∧e=.returned ((v.ren (y6_ l m)).den β'):=
 call_lit H R (laid_rw hlen hpos h00 hz hfit hinj (fun i hi hlt=>by
  obtain⟨b,hb⟩:=newB_mem (ρ:=y6_ l m) (l:=L1.drop L0.length) hi (by rw[List.length_drop];exact hlt)
  exact(hwr _ hb).trans (hm i hi)) hle hno hst0 R.st hst1 hv) hsta
theorem arrCl {β : Env}{n k:Nat}{f g:Nat→SV}(h:∀q,q < n→(f q).cl β =(g q).cl β):(SV.arr n k f).cl β =(SV.arr n k g).cl β :=  d3_
theorem At.empty {w0:World}{M:Nat→Prop}{E:Env}{n0 N:Nat}{D:List Deferred}{φ : Fr}{L:List HB}{K:Act→World→Prop}(ty k:Nat)(f:Nat→SV)(hf:∀(h:HM) (q:Nat),Stable h (f q))
  (h:At w0 M E n0 N D φ (L++[.own ty (.arr 0 k f) false]) K):At w0 M E n0 N D φ L K:=fun a w hS=>by
 obtain⟨⟨β,hE,R,F⟩,hbn,hsz,hd⟩:=hS
 have hm:hp L L.length=.dead:=xc_ (Nat.le_refl _)
 have R1:=nothing R (e:=ty) (k:=k) (g:=f) hm (fun q=>hf _ q)
 have hag:∀i,(hp L i).born=true→β i=setE β L.length (none,0) i:=z4_ hm
 have hborn:∀i,(hp L i).born=true→(upd (hp L) L.length (.own ty (.arr 0 k f) false) i).born=true:=fun i hi=>by
  unfold Vm.upd;split
  ·rfl
  ·exact hi
 refine h a w ⟨⟨setE β L.length (none,0),fun i hi=>(hag i (hbn i hi)).symm.trans (hE i hi),by rw[hp_append1];exact R1,fun u v hu=>?_⟩,fun i hi=>by rw[hp_append1];exact hborn i (hbn i hi),hsz,hd⟩
 rw[hp_append1]
 obtain⟨k1,k2⟩:=F u v hu
 exact⟨k1.more hborn,by rw[k2];exact k1.den hag⟩
theorem WF.empty {P:Program}{w0:World}{M:Nat→Prop}{E:Env}{n0 N n:Nat}{D:List Deferred}{φ : Fr}{L:List HB}{c:Code}{ro:Option Nat}{Q:Exit→Act→World→Prop}(ty k:Nat)(f:Nat→SV)(hf:∀(h:HM) (q:Nat),Stable h (f q))
  (h:WF ro n P c w0 M E n0 N D φ (L++[.own ty (.arr 0 k f) false]) Q):WF ro n P c w0 M E n0 N D φ L Q:=At.empty ty k f hf h
def nilOr (D:List Int)(b:Nat):SV:=SV.ite D.isEmpty (.sl 0 0 [] 0 0 0 (some 0)) (.sl b b [] 1 0 D.length none)
theorem nilOr_t {D:List Int}{b:Nat}(h:D.isEmpty=true):nilOr D b=.sl 0 0 [] 0 0 0 (some 0):=by unfold nilOr;rw[h];rfl
theorem nilOr_f {D:List Int}{b:Nat}(h:D.isEmpty=false):nilOr D b=.sl b b [] 1 0 D.length none:=by unfold nilOr;rw[h];rfl
theorem nilOr_st {D:List Int}{b:Nat}{hh:HM}(h0:(hh 0).born=true)(hb:(hh b).born=true):Stable hh (nilOr D b):=by
 cases h:D.isEmpty
 ·rw[nilOr_f h];simp[Stable,hb]
 ·rw[nilOr_t h];simp[Stable,h0]
theorem less_nil {t b b':Nat}{ex:Bool}{σ : Nat→Nat}{D:List Int}(h:D.isEmpty=false)(hb:σ b=b'){n:Nat}(hn:D.length=n):Less (.own t (.sl b' b' [] 1 0 n none) ex) ((HB.own t (nilOr D b) ex).ren σ):=by
 rw[nilOr_f h,←hn]
 simp only[HB.ren,SV.ren,hb]
 exact .same _
theorem less_app {t:Nat}{σ : Nat→Nat}(D:List Int)(k:Int){g:Nat→SV}(hg:∀q,q < D.length+1→∀β,(g q).cl β = [.int .i64 ((D++[k]).getD q 0)]):Less (.own t (.arr (D.length+1) 1 g) false) ((HB.own t (.arr (D++[k]).length 1 (i64S (D++[k]))) false).ren σ):=by
 have e:(D++[k]).length=D.length+1:=by simp
 rw[e]
 refine .val (fun β=>arrCl fun q hq=>?_) (fun n1 k1 f1 e=>by injection e with e1 e2 e3;subst e1 e2;exact⟨_,rfl⟩) (fun n1 k1 f1 e=>by injection e with e1 e2 e3;subst e1 e2;exact⟨_,rfl⟩)
 rw[hg q hq β];rfl
end Go.Proofs.Ytjliakjbdcplcaa.Vm
end
section
namespace Go.Proofs.Ytjliakjbdcplcaa.Vm
open Go.RowKit
def stS (s:Sta)(c k:Nat):SV:=.agg [.int .i64 s.at_,.bool s.ended,.arr 8 1 fun q=>.int .i64 (s.regs q),.sl c c [] 1 0 s.cells.length none,.int .i64 s.draws,.sl k k [] 3 0 s.sends.length none]
def evS (v:Evi):SV:=.agg [.int .u64 v.seed,.int .i64 v.process,.int .i64 v.ports,.int .i64 v.look,.int .i64 v.now]
def macS (s:Sta)(v:Evi)(x:Ins)(c k:Nat):SV:=.agg [stS s c k,evS v,insS x]
def mB (s:Sta)(v:Evi)(x:Ins)(c k:Nat):HB:=.own 164 (macS s v x c k) true
def cB (s:Sta):HB:=.own 2 (.arr s.cells.length 1 (i64S s.cells)) false
def sB (s:Sta):HB:=.own 64 (.arr s.sends.length 3 (zt_ s.sends)) false
theorem stS_eq (s:Sta)(c k:Nat):stS s c k=.agg [.int .i64 s.at_,.bool s.ended,.arr 8 1 fun q=>.int .i64 (s.regs q),.sl c c [] 1 0 s.cells.length none,.int .i64 s.draws,.sl k k [] 3 0 s.sends.length none]:=rfl
theorem evS_eq (v:Evi):evS v=.agg [.int .u64 v.seed,.int .i64 v.process,.int .i64 v.ports,.int .i64 v.look,.int .i64 v.now]:=rfl
theorem macS_eq (s:Sta)(v:Evi)(x:Ins)(c k:Nat):macS s v x c k=.agg [stS s c k,evS v,insS x]:=rfl
theorem mB_eq (s:Sta)(v:Evi)(x:Ins)(c k:Nat):mB s v x c k=.own 164 (macS s v x c k) true:=rfl
theorem cB_eq (s:Sta):cB s=.own 2 (.arr s.cells.length 1 (i64S s.cells)) false:=rfl
theorem sB_eq (s:Sta):sB s=.own 64 (.arr s.sends.length 3 (zt_ s.sends)) false:=rfl
set_option linter.defProp false in
def JM:=And.intro @stS_eq (And.intro @evS_eq (And.intro @macS_eq (And.intro @mB_eq (And.intro @cB_eq @sB_eq))))
theorem ls_getD {α : Type}{g:SV→α}{n q:Nat}{f:Nat→SV}{d:α}(h:q < n):(ls g n f).getD q d=g (f q):=by
 simp[ls,h]
def macP (h:HM)(g:Nat):Option (Sta×Evi×Ins×Nat×Nat×Prop):=match h g with
 | .own t (.agg [.agg [a,.bool e,.arr 8 1 rg,.sl z c [] 1 0 nc none,d,.sl z2 k [] 3 0 ns none],.agg [e0,e1,e2,e3,e4],iv]) true=>match h c,h k with
  | .own t1 (.arr n1 1 cf) false,.own t2 (.arr n2 3 sf) false=>
   bif (Nat.beq t 164 && Nat.beq t1 2 && Nat.beq t2 64) && (Nat.beq z c && Nat.beq z2 k && Nat.beq n1 nc && Nat.beq n2 ns) && (isI .i64 a && isI .i64 d) && (isI .u64 e0 && isI .i64 e1 && isI .i64 e2 && isI .i64 e3 && isI .i64 e4) && isIns iv then
    some (⟨iOf a,e,fun q=>iOf (rg q),ls iOf nc cf,iOf d,ls xm_ ns sf⟩,⟨iOf e0,iOf e1,iOf e2,iOf e3,iOf e4⟩,zg_ iv,c,k,(∀q,q < 8→isI .i64 (rg q)=true)∧(∀q,q < nc→isI .i64 (cf q)=true)∧∀q,q < ns→isSnd (sf q)=true)else none
  | _,_=>none
 | _=>none
theorem mac_val {h:HM}{g c k:Nat}{s:Sta}{v:Evi}{x:Ins}{ok:Prop}(hp:macP h g=some (s,v,x,c,k,ok))(hok:ok) :
  ∃l cf sf,h g=.own 164 (.agg l) true∧(∀β,(SV.agg l).cl β =(macS s v x c k).cl β)∧h c=.own 2 (.arr s.cells.length 1 cf) false∧(∀β q,q < s.cells.length→(cf q).cl β =(i64S s.cells q).cl β) ∧
   h k=.own 64 (.arr s.sends.length 3 sf) false∧(∀β q,q < s.sends.length→(sf q).cl β =(zt_ s.sends q).cl β)∧g≠c∧g≠k∧c≠k:=by
 unfold macP at hp
 split at hp
 ·rename_i t a e rg z c0 nc d z2 k0 ns e0 e1 e2 e3 e4 iv hg
  split at hp
  ·rename_i t1 n1 cf t2 n2 sf hc hk
   obtain⟨hb,hs⟩:=zj_ hp
   simp only[Option.some.injEq,Prod.mk.injEq]at hs
   obtain⟨rfl,rfl,rfl,rfl,rfl,rfl⟩:=hs
   simp only[Bool.and_eq_true]at hb
   obtain⟨⟨⟨⟨⟨⟨b1,b2⟩,b3⟩,⟨⟨b4,b5⟩,b6⟩,b7⟩,b8,b9⟩,⟨⟨⟨b10,b11⟩,b12⟩,b13⟩,b14⟩,b15⟩:=hb
   have b1:=Nat.eq_of_beq_eq_true b1
   have b2:=Nat.eq_of_beq_eq_true b2
   have b3:=Nat.eq_of_beq_eq_true b3
   have b4:=Nat.eq_of_beq_eq_true b4
   have b5:=Nat.eq_of_beq_eq_true b5
   have b6:=Nat.eq_of_beq_eq_true b6
   have b7:=Nat.eq_of_beq_eq_true b7
   subst b1 b2 b3 b4 b5 b6 b7
   obtain⟨hr,hcf,hsf⟩:=hok
   refine⟨_,cf,sf,hg,fun β=>?_,by rw[hc,zb_],fun β q hq=>?_,by rw[hk,zb_],fun β q hq=>?_,?_,?_,?_⟩
   ·have h8:(SV.arr 8 1 rg).cl β =(SV.arr 8 1 fun q=>.int .i64 (iOf (rg q))).cl β:=arrCl fun q hq=>by rw[isI_cl (hr q hq)];rfl
    simp only[macS,stS,evS,cl_agg,yf_,clL_nil,h8,isI_cl b8,isI_cl b9,isI_cl b10,isI_cl b11,isI_cl b12,isI_cl b13,isI_cl b14,isIns_cl b15,isIns_cl (zy_ _),zv_,zb_]
    rfl
   ·rw[zb_]at hq
    rw[isI_cl (hcf q hq)]
    unfold i64S
    rw[ls_getD hq];rfl
   ·rw[zb_]at hq
    rw[isSnd_cl (hsf q hq)]
    unfold zt_
    rw[ls_getD hq,isSnd_cl (zw_ _),zu_]
   ·rintro rfl;rw[hg]at hc;cases hc
   ·rintro rfl;rw[hg]at hk;cases hk
   ·rintro rfl;rw[hc]at hk;cases hk
  ·cases hp
 ·cases hp
def macH (h:HM)(g c k:Nat)(s:Sta)(v:Evi)(x:Ins):HM:=upd (upd (upd h g (mB s v x c k)) c (cB s)) k (sB s)
theorem macH_g {h:HM}{g c k:Nat}{s:Sta}{v:Evi}{x:Ins}(n1:g≠c)(n2:g≠k):macH h g c k s v x g=mB s v x c k:=by
 unfold macH;rw[yb_ n2,yb_ n1,zs_]
theorem macH_c {h:HM}{g c k:Nat}{s:Sta}{v:Evi}{x:Ins}(n3:c≠k):macH h g c k s v x c=cB s:=by
 unfold macH;rw[yb_ n3,zs_]
theorem macH_k {h:HM}{g c k:Nat}{s:Sta}{v:Evi}{x:Ins}:macH h g c k s v x k=sB s:=by
 unfold macH;rw[zs_]
theorem macH_o {h:HM}{g c k i:Nat}{s:Sta}{v:Evi}{x:Ins}(n1:i≠g)(n2:i≠c)(n3:i≠k):macH h g c k s v x i=h i:=by
 unfold macH;rw[yb_ n3,yb_ n2,yb_ n1]
theorem macH_born {h:HM}{g c k i:Nat}{s:Sta}{v:Evi}{x:Ins}(hi:(h i).born=true):(macH h g c k s v x i).born=true:=by
 unfold macH Vm.upd
 split
 ·rfl
 ·split
  ·rfl
  ·split
   ·rfl
   ·exact hi
theorem cB_st {h:HM}{s:Sta}:(cB s).stable h:=fun q=>i64S_stable q
theorem sB_st {h:HM}{s:Sta}:(sB s).stable h:=fun q=>sndsS_stable q
theorem mB_st {h:HM}{s:Sta}{v:Evi}{x:Ins}{c k:Nat}(hc:(h c).born=true)(hk:(h k).born=true):(mB s v x c k).stable h:=by
 simp[mB,HB.stable,macS,stS,evS,insS,Stable,zd_,hc,hk]
theorem macS_ren (ρ : Nat→Nat)(s:Sta)(v:Evi)(x:Ins)(c k:Nat):(macS s v x c k).ren ρ = macS s v x (ρ c) (ρ k):=by
 simp[macS,stS,evS,insS,SV.ren,renL]
theorem mB_ren (ρ : Nat→Nat)(s:Sta)(v:Evi)(x:Ins)(c k:Nat):(mB s v x c k).ren ρ = mB s v x (ρ c) (ρ k):=by
 simp[mB,HB.ren,macS_ren]
theorem cB_ren (ρ : Nat→Nat)(s:Sta):(cB s).ren ρ = cB s:=rfl
theorem sB_ren (ρ : Nat→Nat)(s:Sta):(sB s).ren ρ = sB s:=by
 have:(fun q=>(zt_ s.sends q).ren ρ)=zt_ s.sends:=by
  funext q;unfold zt_;simp only[sndS,SV.ren,renL]
 simp[sB,HB.ren,SV.ren,this]
section
variable {w0 w:World} {M:Nat→Prop} {β : Env} {h h':HM} {g c k:Nat} {s:Sta} {v:Evi} {x:Ins} {ok:Prop}
theorem mac_canon (hp:macP h g=some (s,v,x,c,k,ok))(hok:ok)(R:Rep w0 M β h' w)(eg:h' g=h g)(ec:h' c=h c)(ek:h' k=h k) :
  Rep w0 M β (macH h' g c k s v x) w∧g≠c∧g≠k∧c≠k∧0≠g∧0≠c∧0≠k:=by
 obtain⟨l,cf,sf,hg,hgl,hc,hcl,hk,hkl,n1,n2,n3⟩:=mac_val hp hok
 have z:∀{j:Nat} {b:HB},h' j=b→b.mine=true→0≠j:=fun {j b} hj hb e=>by
  subst e;rw[R.nil0]at hj;subst hj;cases hb
 have z1:=z (eg.trans hg) rfl
 have z2:=z (ec.trans hc) rfl
 have z3:=z (ek.trans hk) rfl
 have hnn:(macH h' g c k s v x) 0=.gone:=by rw[macH_o z1 z2 z3];exact R.nil0
 refine⟨R.less (fun i=>?_) hnn (fun i=>?_),n1,n2,n3,z1,z2,z3⟩
 ·by_cases e1:i=g
  ·subst e1
   rw[macH_g n1 n2,eg,hg]
   exact .val hgl (fun n k f e=>by cases e) (fun n k f e=>by cases e)
  ·by_cases e2:i=c
   ·subst e2
    rw[macH_c n3,ec,hc]
    exact .val (fun β=>arrCl (hcl β)) (fun n k f e=>by injection e with e1 e2 e3;subst e1 e2;exact⟨_,rfl⟩) (fun n k f e=>by injection e with e1 e2 e3;subst e1 e2;exact⟨_,rfl⟩)
   ·by_cases e3:i=k
    ·subst e3
     rw[macH_k,ek,hk]
     exact .val (fun β=>arrCl (hkl β)) (fun n k f e=>by injection e with e1 e2 e3;subst e1 e2;exact⟨_,rfl⟩) (fun n k f e=>by injection e with e1 e2 e3;subst e1 e2;exact⟨_,rfl⟩)
    ·rw[macH_o e1 e2 e3];exact .same _
 ·by_cases e1:i=g
  ·subst e1
   rw[macH_g n1 n2]
   exact mB_st (by rw[macH_c n3];rfl) (by rw[macH_k];rfl)
  ·by_cases e2:i=c
   ·subst e2
    rw[macH_c n3];exact cB_st
   ·by_cases e3:i=k
    ·subst e3
     rw[macH_k];exact sB_st
    ·rw[macH_o e1 e2 e3]
     exact HB.stable_more (R.st i) fun j hj=>macH_born hj
end
abbrev MF:=List SV→Sta→Evi→Ins→Option (Prop×(Nat→SV)×Sta×Ins×Bool)
def mS (F:MF):yr_:=fun args h m=>match args with
 | .ptr g []::ar=>match macP h g with
  | some (s,v,x,c,k,ok)=>match F ar s v x with
   | some (cond,val,s',x',mv)=>some (ok∧cond,val c,[g,c,k],bif mv then [(g,mB s' v x' c m),(c,cB s'),(k,.gone),(m,sB s')] else [(g,mB s' v x' c k),(c,cB s'),(k,sB s')])
   | none=>none
  | none=>none
 | _=>none
theorem inj4 {g c k:Nat}{a b d:HB}(n1:g≠c)(n2:g≠k)(n3:c≠k):∀i j,i < [HB.gone,a,b,d].length→j < [HB.gone,a,b,d].length→i≠j→(hp [HB.gone,a,b,d] i).mine=true→(hp [HB.gone,a,b,d] j).mine=true∨(hp [HB.gone,a,b,d] j).isRo=true→[0,g,c,k].getD i 0≠[0,g,c,k].getD j 0:=by
 intro i j hi hj hne hmi hmj
 simp only[List.length_cons,List.length_nil]at hi hj
 have hi0:i≠0:=by rintro rfl;cases hmi
 have hj0:j≠0:=by
  rintro rfl
  rcases hmj with h|h<;>cases h
 rcases i with _|_|_|_|i
 ·exact absurd rfl hi0
 all_goals rcases j with _|_|_|_|j
 all_goals first|exact absurd rfl hj0|exact absurd rfl hne |(simp only[List.getD_cons_succ,List.getD_cons_zero];first|exact n1|exact n2|exact n3|exact n1.symm|exact n2.symm|exact n3.symm)|omega
theorem mS_ok {f:FuncId}{F:MF}(hf:named Try.prog f=true)
  (H:∀ar s v x cond val s' x' mv,F ar s v x=some (cond,val,s',x',mv)→cond→(∀ρ,renL ρ ar=ar)∧(∀h,zd_ h ar)∧(∀ρ : Nat→Nat,ρ 0=0→(val 2).ren ρ = val (ρ 2))∧(∀h:HM,(h 0).born=true→(h 2).born=true→Stable h (val 2)) ∧
   yc_ Try.prog f (.ptr 1 []::ar) [.gone,mB s v x 2 3,cB s,sB s] (val 2) (bif mv then [.gone,mB s' v x' 2 4,cB s',.gone,sB s'] else [.gone,mB s' v x' 2 3,cB s',sB s'])):zh_ Try.prog f (mS F):=by
 refine⟨zf_ hf,fun args h m c v rd wr hs hm hc w0 M β h' w R hrd hwr hst=>?_⟩
 unfold mS at hs
 split at hs
 ·rename_i g ar
  split at hs
  ·rename_i s v x c k ok hmp
   split at hs
   ·rename_i cond val s' x' mv hF
    simp only[Option.some.injEq,Prod.mk.injEq]at hs
    obtain⟨rfl,rfl,rfl,rfl⟩:=hs
    obtain⟨hok,hcond⟩:=hc
    obtain⟨q1,q2,q3,q4,hl⟩:=H ar s v x _ _ _ _ _ hF hcond
    obtain⟨R1,n1,n2,n3,z1,z2,z3⟩:=mac_canon hmp hok R (hrd g (by simp)) (hrd c (by simp)) (hrd k (by simp))
    have hfit:FitL (y6_ [0,g,c,k] m) (macH h' g c k s v x) [.gone,mB s v x 2 3,cB s,sB s] [0,g,c,k]:=by
     refine⟨.gone ?_,?_,?_,?_,trivial⟩
     ·rw[R1.nil0];rfl
     ·rw[macH_g n1 n2]
      have e:mB s v x c k=.own 164 ((macS s v x 2 3).ren (y6_ [0,g,c,k] m)) true:=by rw[macS_ren];rfl
      rw[e];exact .own
     ·rw[macH_c n3]
      exact .own (v:=.arr s.cells.length 1 (i64S s.cells))
     ·rw[macH_k]
      have e:sB s=(sB s).ren (y6_ [0,g,c,k] m):=(sB_ren _ _).symm
      rw[e];exact .own (v:=.arr s.sends.length 3 (zt_ s.sends))
    have hargs:renL (y6_ [0,g,c,k] m) (.ptr 1 []::ar)=.ptr g []::ar:=by
     simp only[renL,SV.ren,q1];rfl
    have hval:(val 2).ren (y6_ [0,g,c,k] m)=val c:=q3 _ rfl
    have hst0:yk_ (hp [.gone,mB s v x 2 3,cB s,sB s]) [.gone,mB s v x 2 3,cB s,sB s]:=⟨trivial,mB_st rfl rfl,cB_st,sB_st,trivial⟩
    cases mv with
    | false=>
     have C:=callRW (h:=h) (m:=m) [0,g,c,k] hl R1 rfl (by simp) rfl rfl hfit (inj4 n1 n2 n3) hm (fun p hp=>by cases hp) (by simp) rfl hst0 ⟨rfl,q2 _⟩
      ⟨trivial,mB_st rfl rfl,cB_st,sB_st,trivial⟩ (q4 _ rfl rfl)
     rw[hargs]at C
     have hw:wrs (macH h' g c k s v x) (oldB (y6_ [0,g,c,k] m) [.gone,mB s v x 2 3,cB s,sB s] [.gone,mB s' v x' 2 3,cB s',sB s'] [0,g,c,k]++newB (y6_ [0,g,c,k] m) m ([HB.gone,mB s' v x' 2 3,cB s',sB s'].drop 4))=wrs h' [(g,mB s' v x' c k),(c,cB s'),(k,sB s')]:=by
      simp only[oldB,newB,mB_ren,cB_ren,sB_ren,List.drop,List.append_nil]
      funext i
      show upd (upd (upd (macH h' g c k s v x) g (mB s' v x' c k)) c (cB s')) k (sB s') i=upd (upd (upd h' g (mB s' v x' c k)) c (cB s')) k (sB s') i
      unfold macH Vm.upd
      split
      ·rfl
      ·split
       ·rfl
       ·split<;>rfl
     refine C.mono fun e w' ⟨β',g1,g2,g3,g4⟩=>⟨β',fun i hi=>g1 i (macH_born hi),?_,?_,?_⟩
     ·rw[cond_false,←hw];exact g2
     ·rw[cond_false,←hval,←hw];exact g3
     ·rw[←hval];exact g4
    | true=>
     have hmd:h m=.dead:=hm m (Nat.le_refl _)
     have hm':h' m=.dead:=(hwr (m,sB s') (by simp)).trans hmd
     have mg:m≠g:=by rintro rfl;have:=mac_val hmp hok;obtain⟨l,cf,sf,e,_⟩:=this;rw[hmd]at e;cases e
     have mc:m≠c:=by rintro rfl;have:=mac_val hmp hok;obtain⟨l,cf,sf,_,_,e,_⟩:=this;rw[hmd]at e;cases e
     have mk:m≠k:=by rintro rfl;have:=mac_val hmp hok;obtain⟨l,cf,sf,_,_,_,_,e,_⟩:=this;rw[hmd]at e;cases e
     have C := callRW (h := h) (m := m) [0, g, c, k] hl R1 rfl (by simp) rfl rfl hfit (inj4 n1 n2 n3) hm (fun p hp=>by
       simp only[newB,List.drop,cond_true,List.length_cons,List.length_nil,List.mem_cons,List.not_mem_nil,or_false]at hp
       subst hp
       show macH h' g c k s v x m=h m
       rw[macH_o mg mc mk,hm',hmd]) (by simp) rfl hst0 ⟨rfl,q2 _⟩
      ⟨trivial,mB_st rfl rfl,cB_st,trivial,sB_st,trivial⟩ (q4 _ rfl rfl)
     rw[hargs]at C
     have hw:wrs (macH h' g c k s v x) (oldB (y6_ [0,g,c,k] m) [.gone,mB s v x 2 3,cB s,sB s] [.gone,mB s' v x' 2 4,cB s',.gone,sB s'] [0,g,c,k]++newB (y6_ [0,g,c,k] m) m ([HB.gone,mB s' v x' 2 4,cB s',.gone,sB s'].drop 4))=wrs h' [(g,mB s' v x' c m),(c,cB s'),(k,.gone),(m,sB s')]:=by
      have e4:y6_ [0,g,c,k] m 4=m:=by simp[y6_]
      simp only[oldB,newB,mB_ren,cB_ren,sB_ren,List.drop,e4]
      funext i
      show upd (upd (upd (upd (macH h' g c k s v x) g (mB s' v x' c m)) c (cB s')) k .gone) m (sB s') i=upd (upd (upd (upd h' g (mB s' v x' c m)) c (cB s')) k .gone) m (sB s') i
      unfold macH Vm.upd
      split
      ·rfl
      ·split
       ·rfl
       ·split
        ·rfl
        ·split<;>rfl
     refine C.mono fun e w' ⟨β',g1,g2,g3,g4⟩=>⟨β',fun i hi=>g1 i (macH_born hi),?_,?_,?_⟩
     ·rw[cond_true,←hw];exact g2
     ·rw[cond_true,←hval,←hw];exact g3
     ·rw[←hval];exact g4
   ·cases hs
  ·cases hs
 ·cases hs
abbrev RF:=Sta→Evi→Ins→Option (Prop×SV)
def rS (F:RF):yr_:=fun args h m=>match args with
 | [.ptr g []]=>match macP h g with
  | some (s,v,x,c,k,ok)=>match F s v x with
   | some (cond,val)=>some (ok∧cond,val,[g,c,k],[])
   | none=>none
  | none=>none
 | _=>none
theorem rS_ok {f:FuncId}{F:RF}(hf:named Try.prog f=true)
  (H:∀s v x cond val,F s v x=some (cond,val)→cond→(∀ρ,val.ren ρ = val)∧(∀h:HM,Stable h val) ∧
   yc_ Try.prog f [.ptr 1 []] [.gone,.ro (macS s v x 2 3),.gone,.gone] val [.gone,.gone,.gone,.gone]):zh_ Try.prog f (rS F):=by
 refine⟨zf_ hf,fun args h m c v rd wr hs hm hc w0 M β h' w R hrd hwr hst=>?_⟩
 unfold rS at hs
 split at hs
 ·rename_i g
  split at hs
  ·rename_i s v x c k ok hmp
   split at hs
   ·rename_i cond val hF
    simp only[Option.some.injEq,Prod.mk.injEq]at hs
    obtain⟨rfl,rfl,rfl,rfl⟩:=hs
    obtain⟨hok,hcond⟩:=hc
    obtain⟨q1,q2,hl⟩:=H s v x _ _ hF hcond
    obtain⟨l,cf,sf,hg,hgl,hcc,_,hk,_⟩:=mac_val hmp hok
    have hfit:FitL (y6_ [0,g,c,k] m) h' [.gone,.ro (macS s v x 2 3),.gone,.gone] [0,g,c,k]:=by
     refine⟨.gone ?_,.ro (u:=.agg l) (by rw[hrd g (by simp),hg];rfl) (fun β=>by rw[macS_ren];exact hgl β) (fun n k f e=>by rw[macS_ren]at e;cases e),.gone (by rw[hrd c (by simp),hcc];rfl),.gone (by rw[hrd k (by simp),hk];rfl),trivial⟩
     rw[R.nil0];rfl
    have C:=callG (h:=h) (m:=m) [0,g,c,k] hl R rfl (by simp) rfl rfl rfl hfit hm (fun p hp=>by cases hp) (by simp)
     (by simp[yk_,HB.stable,macS,stS,evS,insS,Stable,zd_,hp,HB.born]) ⟨rfl,trivial⟩ trivial (q2 _)
    refine C.mono fun e w' ⟨β',g1,g2,g3,g4⟩=>⟨β',g1,g2,q2 _,by rw[←q1 (y6_ [0,g,c,k] m)];exact g4⟩
   ·cases hs
  ·cases hs
 ·cases hs
end Go.Proofs.Ytjliakjbdcplcaa.Vm
end
section
namespace Go.Proofs.Ytjliakjbdcplcaa.Vm
open Go.RowKit
theorem insS_agg (i:Ins):(insS i).isAgg=true:=rfl
theorem insS_plain (i:Ins):(insS i).plain=true:=rfl
theorem xo_ (i:Ins):nav (insS i) []=some (True,insS i):=rfl
theorem y3_ (i:Ins)(pa:List Stp):nav (insS i) (.f 0 0::pa)=nav (.int .u8 i.op) pa:=rfl
theorem y2_ (i:Ins)(pa:List Stp):nav (insS i) (.f 1 1::pa)=nav (.int .u8 i.a) pa:=rfl
theorem y1_ (i:Ins)(pa:List Stp):nav (insS i) (.f 2 2::pa)=nav (.int .u8 i.b) pa:=rfl
theorem y0_ (i:Ins)(pa:List Stp):nav (insS i) (.f 3 3::pa)=nav (.int .u8 i.c) pa:=rfl
theorem yz_ (i:Ins)(pa:List Stp):nav (insS i) (.f 4 4::pa)=nav (.int .i64 i.n) pa:=rfl
theorem sndS_size (i:Snd):(sndS i).size=3:=rfl
theorem sndS_agg (i:Snd):(sndS i).isAgg=true:=rfl
theorem sndS_plain (i:Snd):(sndS i).plain=true:=rfl
theorem xn_ (i:Snd):nav (sndS i) []=some (True,sndS i):=rfl
theorem yy_ (i:Snd)(pa:List Stp):nav (sndS i) (.f 0 0::pa)=nav (.int .i64 i.port) pa:=rfl
theorem yx_ (i:Snd)(pa:List Stp):nav (sndS i) (.f 1 1::pa)=nav (.int .i64 i.delay) pa:=rfl
theorem yw_ (i:Snd)(pa:List Stp):nav (sndS i) (.f 2 2::pa)=nav (.int .i64 i.value) pa:=rfl
set_option linter.defProp false
def JK:=And.intro @insS_size (And.intro @insS_agg (And.intro @insS_plain (And.intro @sndS_size (And.intro @sndS_agg @sndS_plain))))
end Go.Proofs.Ytjliakjbdcplcaa.Vm
end
section
namespace Go.Proofs.Ytjliakjbdcplcaa.Vm
open Go.RowKit
attribute [push_cast] runR opG gtmp gval gus opX tmpsOf tm tmO tmP restr look xb_ tab tys zs ets numOf ieq Int.cast_ofNat_Int Int.ofNat_zero beq_true beq_false frameOf ev evL ofV opV loadV noW pushF wrsL setH allBorn allGone HB.born HB.isGone HB.val SV.plain dstOk hp nav fitsT SV.size sizeL SV.isAgg TK.size TK.agg bin binE binN binI arN arI cmpN cmpI keq kn narrow callV storeV setp fillV buildV buildSliceV makeV sliceV appendV appendFV slice3V copyV List.isEmpty_nil srcV evO asN ite_t ite_f ite_bool ite_int ite_nat maxV v_beq v_ble v_blt cond_true cond_false List.getElem?_cons_zero List.getElem?_cons_succ List.getD_cons_zero List.getD_cons_succ List.getD_nil List.length_cons List.length_nil List.take_succ_cons List.take_zero List.set_cons_zero List.set_cons_succ List.cons_append List.nil_append List.append_assoc List.replicate_succ List.replicate_zero Nat.zero_add Nat.add_zero decide_true decide_false Bool.true_and Bool.and_true Bool.false_and Bool.and_false Bool.true_or Bool.or_true Bool.false_or Bool.or_false beq_self_eq_true Bool.or_self Nat.lt_irrefl Nat.not_lt_zero Nat.le_refl Option.getD_some Option.getD_none BEq.rfl Bool.not_true Bool.not_false Bool.cond_true_left Bool.cond_false_right
attribute [local push_cast] eqB eqBL allB
theorem ext_getD {α : Type}{xs ys:List α}(d:α)(hl:xs.length=ys.length)(h:∀q,q < xs.length→xs.getD q d=ys.getD q d):xs=ys:=by
 apply List.ext_getElem hl
 intro q h1 h2
 have:=h q h1
 simpa [List.getD_eq_getElem?_getD,List.getElem?_eq_getElem h1,List.getElem?_eq_getElem h2]using this
def eqL {α : Type}[DecidableEq α](xs ys:List α):Bool:=decide (xs=ys)
theorem eqL_true {α : Type}[DecidableEq α]{xs ys:List α}(h:xs=ys):eqL xs ys=true:=by unfold eqL;simp[h]
theorem eqL_false {α : Type}[DecidableEq α]{xs ys:List α}(h:xs≠ys):eqL xs ys=false:=by unfold eqL;simp[h]
theorem y5_ (k k':IntKind)(n:Int):isI k (.int k' n)=keq k k':=rfl
theorem y4_ (k k':IntKind)(n:Nat):isI k (.nat k' n)=keq k k':=rfl
theorem ls_i64S (l:List Int):ls iOf l.length (i64S l)=l:=ls_of (g:=iOf) (e:=fun x=>.int .i64 x) (fun _=>rfl) l 0
theorem ls_i64S' (l:List Int):ls iOf l.length (fun q=>i64S l q)=l:=ls_i64S l
theorem ls_prS (l:List Ins):ls zg_ l.length (prS l)=l:=ls_of zv_ l _
theorem ls_prS' (l:List Ins):ls zg_ l.length (fun q=>prS l q)=l:=ls_prS l
theorem ls_prS2 (l:List Ins):ls zg_ l.length (fun q=>insS (l.getD q ⟨0,0,0,0,0⟩))=l:=ls_prS l
theorem ls_sndsS (l:List Snd):ls xm_ l.length (zt_ l)=l:=ls_of zu_ l _
theorem ls_sndsS' (l:List Snd):ls xm_ l.length (fun q=>zt_ l q)=l:=ls_sndsS l
theorem prS_ren (ρ : Nat→Nat)(l:List Ins):(fun q=>(prS l q).ren ρ)=prS l:=by
 funext q;unfold prS;simp only[insS,SV.ren,renL]
end Go.Proofs.Ytjliakjbdcplcaa.Vm
end

import Derived.Test.YtjliakjbdcplcaaGreatQ1
import Derived.Test.YtjliakjbdcplcaaGreatQ5
import Derived.Test.YtjliakjbdcplcaaGreatQ6
import Derived.Test.YtjliakjbdcplcaaGreatChecked
import Derived.ProofKit
import Derived.Deep.Slices
import Derived.Scope
set_option linter.unusedSimpArgs false
set_option linter.unusedVariables false
set_option maxRecDepth 100000
set_option maxHeartbeats 4000000
section
namespace Go.Proofs.YtjliakjbdcplcaaGreat
open Go.ChangeShapes Go.WideShapes Go.ChangeAt Go.RowKit Go.Deep
namespace Vm
theorem law_of_lit17 {f:FuncId}{args:List SV}{L0 L1:List HB}{W:World}{β : Env}(H:zs_ Tryz.prog f args L0 (.bool true) L1)(R:Rep W (fun _=>False) β (hp L0) W) :
  Calls Tryz.prog f (denL β args).toArray W fun e W'=>e=.returned (.bool true)∧Below W.heap.size W W':=
 (H W _ β W R).mono fun e W' ⟨β',_,R',_,he⟩=>⟨he,R'.os,R'.tape,R'.output,R'.size,fun k hk=>R'.frame k hk id⟩
end Vm
end Go.Proofs.YtjliakjbdcplcaaGreat
end
section
namespace Go.Proofs.YtjliakjbdcplcaaGreat.Vm
open Go.RowKit
section
variable {P:Program} {T:Tab} {C:FuncId→Option yn_} {w0:World} {M:Nat→Prop} {E:Env} {n0 N n:Nat} {D:List Deferred} {φ φ2 φ':Fr} {L L2 L':List HB} {Q:Exit→Act→World→Prop} {ro:Option Nat} {K:Act→World→Prop}
theorem At.runEnd (hC:∀f S,C f=some S→zi_ P f S)(hT:TabOk P T){ops:Array Oper}{k len:Nat}{l:List Oper}{c:Prop}{rs:List Rc}(hd:noDefer ops.toList=true)(hl:(ops.toList.drop k).take len=l)(hlen:l.length=len)(hr:runR T C N ops.toList φ L l=some (c,rs,φ',L'))(hc:c)
  (h:At w0 M E n0 N D φ' L' (Q .normal)):At w0 M E n0 N D φ L (wpOpsIn (FR ro) n P ops Q (List.range' k len)):=by
 have:=At.run (ro:=ro) (n:=n) (rest:=[]) hC hT hd hl hlen hr hc h
 rwa [List.append_nil]at this
theorem At.code {c:Code}(h:WF ro n P c w0 M E n0 N D φ L Q):At w0 M E n0 N D φ L (c.wpIn (FR ro) n P Q):=h
theorem At.thenNormal (h:At w0 M E n0 N D φ L K):At w0 M E n0 N D φ L (Exit.then K Q .normal):=h
theorem At.thenRet (h:At w0 M E n0 N D φ L (Q .ret)):At w0 M E n0 N D φ L (Exit.then K Q .ret):=h
theorem At.thenExit {j:Nat}(h:At w0 M E n0 N D φ L (Q (.exit j))):At w0 M E n0 N D φ L (Exit.then K Q (.exit j)):=h
theorem At.thenGoto {j:Nat}(h:At w0 M E n0 N D φ L (Q (.goto j))):At w0 M E n0 N D φ L (Exit.then K Q (.goto j)):=h
theorem At.inNormal {id:Nat}(h:At w0 M E n0 N D φ L (Q .normal)):At w0 M E n0 N D φ L (Exit.inBlock id Q .normal):=h
theorem At.inRet {id:Nat}(h:At w0 M E n0 N D φ L (Q .ret)):At w0 M E n0 N D φ L (Exit.inBlock id Q .ret):=h
theorem At.inGoto {id j:Nat}(h:At w0 M E n0 N D φ L (Q (.goto j))):At w0 M E n0 N D φ L (Exit.inBlock id Q (.goto j)):=h
theorem At.inHit {id:Nat}(h:At w0 M E n0 N D φ L (Q .normal)):At w0 M E n0 N D φ L (Exit.inBlock id Q (.exit id)):=fun a w hS=>by
 show (if id=id then Q .normal a w else Q (.exit id) a w)
 rw[if_pos rfl]
 exact h a w hS
theorem At.inMiss {id j:Nat}(hn:Nat.beq j id=false)(h:At w0 M E n0 N D φ L (Q (.exit j))):At w0 M E n0 N D φ L (Exit.inBlock id Q (.exit j)):=fun a w hS=>by
 show (if j=id then Q .normal a w else Q (.exit j) a w)
 rw[if_neg (fun e=>by rw[e]at hn;simp at hn)]
 exact h a w hS
theorem At.noGotoNormal (h:At w0 M E n0 N D φ L (Q .normal)):At w0 M E n0 N D φ L (Exit.noGoto Q .normal):=h
theorem At.noGotoRet (h:At w0 M E n0 N D φ L (Q .ret)):At w0 M E n0 N D φ L (Exit.noGoto Q .ret):=h
theorem At.noGotoExit {j:Nat}(h:At w0 M E n0 N D φ L (Q (.exit j))):At w0 M E n0 N D φ L (Exit.noGoto Q (.exit j)):=h
theorem WF.scope {c:Code}(h:WF none n P c w0 M E n0 N D φ L (Exit.noGoto Q)):WF none n P (.scope c) w0 M E n0 N D φ L Q:=fun a w hS=>by
 have h1:c.wp P (Exit.noGoto Q) a w:=wpIn_wide.1 (h a w hS)
 exact wpIn_wide.2 (wp_scope_straight h1)
theorem WF.seqJoin {α : Type}(p:α→Prop)(φi:α→Fr)(Li:α→List HB){x y:Code}(hx:WF ro n P x w0 M E n0 N D φ L (Exit.then (fun a w=>∃z,p z∧St w0 M E n0 N D (φi z) (Li z) a w) Q))(hy:∀z,p z→WF ro n P y w0 M E n0 N D (φi z) (Li z) Q):WF ro n P (.seq x y) w0 M E n0 N D φ L Q:=fun a w hS=>by
 refine wpIn_seq (wpIn_mono (hx a w hS) fun e a' w' hq=>?_)
 cases e<;>try exact hq
 obtain⟨z,hz,hS'⟩:=hq
 exact hy z hz a' w' hS'
theorem At.join {α : Type}{p:α→Prop}{φi:α→Fr}{Li:α→List HB}(z:α)(hz:p z)(hφ : SubF φ (φi z))(hL:LessL L (Li z))(h0:hp (Li z) 0=.gone)(hs:xo_ (hp (Li z)) (Li z))(hf:StableF (hp (Li z)) (φi z))(hb:bornTo n0 (Li z)=true):At w0 M E n0 N D φ L (fun a w=>∃z,p z∧St w0 M E n0 N D (φi z) (Li z) a w):=
 fun a w hS=>⟨z,hz,hS.sub hφ hL h0 hs hf hb⟩
open Classical in
theorem WF.loop0 {α : Type}(p:α→Prop)(φi:α→Fr)(Li:α→List HB)(μ : α→Nat){c:Code}(x0:α)(h0:p x0)
  (step:∀x,p x→WF ro n P c w0 M E n0 N D (φi x) (Li x) (Exit.then (fun a w=>∃y,(p y∧μ y < μ x)∧St w0 M E n0 N D (φi y) (Li y) a w) Q)):WF ro n P (.loop c) w0 M E n0 N D (φi x0) (Li x0) Q:=by
 intro a w hS
 let I:Act→World→Prop:=fun a w=>∃x,p x∧St w0 M E n0 N D (φi x) (Li x) a w
 let pm:Act→World→Nat→Prop:=fun a w k=>∃x,p x∧St w0 M E n0 N D (φi x) (Li x) a w∧μ x=k
 have hex:∀a w,I a w→∃k,pm a w k:=fun a w ⟨x,h1,h2⟩=>⟨μ x,x,h1,h2,rfl⟩
 let m:Act→World→Nat:=fun a w=>if h:I a w then Classical.choose (least (hex a w h))else 0
 have hm:∀a w (h:I a w),pm a w (m a w)∧∀k,pm a w k→m a w≤k:=fun a w h=>by
  have:=Classical.choose_spec (least (hex a w h))
  simp only[m,h,dif_pos]
  exact this
 refine wpIn_loop I m ⟨x0,h0,hS⟩ fun a w hI=>?_
 obtain⟨⟨x,hx,hSx,hμ⟩,hmin⟩:=hm a w hI
 refine wpIn_mono (step x hx a w hSx) fun e a' w' hq=>?_
 cases e<;>try exact hq
 obtain⟨y,⟨hy,hlt⟩,hSy⟩:=hq
 refine⟨⟨y,hy,hSy⟩,?_⟩
 have:=(hm a' w' ⟨y,hy,hSy⟩).2 (μ y) ⟨y,hy,hSy,rfl⟩
 omega
theorem WF.loopAt {α : Type}(p:α→Prop)(φi:α→Fr)(Li:α→List HB)(μ : α→Nat){c:Code}(x0:α)(h0:p x0)
  (hφ : SubF φ (φi x0)) (hL:LessL L (Li x0)) (hz:hp (Li x0) 0=.gone) (hs:xo_ (hp (Li x0)) (Li x0)) (hf:StableF (hp (Li x0)) (φi x0)) (hb:bornTo n0 (Li x0)=true)
  (step:∀x,p x→WF ro n P c w0 M E n0 N D (φi x) (Li x) (Exit.then (fun a w=>∃y,(p y∧μ y < μ x)∧St w0 M E n0 N D (φi y) (Li y) a w) Q)):WF ro n P (.loop c) w0 M E n0 N D φ L Q:=
 WF.sub hφ hL hz hs hf hb (WF.loop0 p φi Li μ x0 h0 step)
theorem At.next {α : Type}{p:α→Prop}{φi:α→Fr}{Li:α→List HB}(y:α)(hy:p y)(hφ : SubF φ (φi y))(hL:LessL L (Li y))(h0:hp (Li y) 0=.gone)(hs:xo_ (hp (Li y)) (Li y))(hf:StableF (hp (Li y)) (φi y))(hb:bornTo n0 (Li y)=true):At w0 M E n0 N D φ L (fun a w=>∃y,p y∧St w0 M E n0 N D (φi y) (Li y) a w):=
 fun a w hS=>⟨y,hy,hS.sub hφ hL h0 hs hf hb⟩
theorem At.endsRet (hT:TabOk P T){fn:Func}{c:Prop}{vs:List SV}{v:SV}{rs:List ResultVar}{L0:List HB}{w1:World}{M1:Nat→Prop}{D1:List Deferred}(A:Anc w0 M [] w1 M1 D1)(hro:RoOk w0 M E L0)(hL0:L0.length≤n0)(hrs:fn.results.toList=rs)(hr:resV T φ (hp L) rs=some (c,vs))(hc:c)(hL:LessL L L2)(h0:hp L2 0=.gone)(hs:xo_ (hp L2) L2)(hsub:RoSub L L0)(hv:∀β,(resS vs).den β = v.den β)(hst:zc_ (hp L2) v) :
  At w1 M1 E n0 N D1 φ L (EndsM n P fn w0 M E n0 v L2 .ret):=At.endsM hT A hro hL0 hrs hr hc hL h0 hs hsub hv hst
theorem At.endsNormal (hT:TabOk P T){fn:Func}{c:Prop}{vs:List SV}{v:SV}{rs:List ResultVar}{L0:List HB}{w1:World}{M1:Nat→Prop}{D1:List Deferred}(A:Anc w0 M [] w1 M1 D1)(hro:RoOk w0 M E L0)(hL0:L0.length≤n0)(hrs:fn.results.toList=rs)(hr:resV T φ (hp L) rs=some (c,vs))(hc:c)(hL:LessL L L2)(h0:hp L2 0=.gone)(hs:xo_ (hp L2) L2)(hsub:RoSub L L0)(hv:∀β,(resS vs).den β = v.den β)(hst:zc_ (hp L2) v) :
  At w1 M1 E n0 N D1 φ L (EndsM n P fn w0 M E n0 v L2 .normal):=At.endsM hT A hro hL0 hrs hr hc hL h0 hs hsub hv hst
end
end Go.Proofs.YtjliakjbdcplcaaGreat.Vm
end
section
namespace Go.Proofs.YtjliakjbdcplcaaGreat.Vm
open Go.RowKit
set_option linter.defProp false
def J22:=@WF.region
def J23:=@WF.drawn
def J24:=fun (_:(0:Nat)=0)=>@WF.cond
theorem hy_ {P:Prop}(h:P:=by exfalso;omega):P:=h
def JH:=And.intro @Bool.not_eq_true' (And.intro @Bool.not_eq_false' (And.intro @decide_eq_true_eq (And.intro @decide_eq_false_iff_not (And.intro @Bool.and_eq_true @Bool.or_eq_true))))
def JP:=And.intro @Int.cast_ofNat_Int (And.intro @ofV_m1 @ofV_min)
def JS:=And.intro @and_self (And.intro @true_and (And.intro @and_true (And.intro @false_implies (And.intro @true_implies (And.intro @Bool.not_eq_true' @imp_self)))))
theorem fol:Tryz.prog.follows .mixedOrders=true:=by kernel_rfl
def c0:FuncId→Option yn_:=y9_ []
theorem zv_:∀f S,c0 f=some S→zi_ Tryz.prog f S:=fun f S h=>by cases h
class Ctl (Q:Prop) (P:outParam Prop):Prop where
 h:P→Q
class NeB (j k:Nat):Prop where
 h:Nat.beq j k=false
instance {k:Nat}:NeB 0 (k+1):=⟨rfl⟩
instance {k:Nat}:NeB (k+1) 0:=⟨rfl⟩
instance {j k:Nat}[h:NeB j k]:NeB (j+1) (k+1):=⟨h.h⟩
section
variable {P:Program} {w0:World} {M:Nat→Prop} {E:Env} {n0 N n:Nat} {D:List Deferred} {φ : Fr} {L:List HB} {Q:Exit→Act→World→Prop} {ro:Option Nat} {K:Act→World→Prop}
instance {x y:Code}:Ctl (WF ro n P (.seq x y) w0 M E n0 N D φ L Q) (WF ro n P x w0 M E n0 N D φ L (Exit.then (y.wpIn (FR ro) n P Q) Q)):=⟨WF.seq⟩
instance {c:Code}:Ctl (At w0 M E n0 N D φ L (c.wpIn (FR ro) n P Q)) (WF ro n P c w0 M E n0 N D φ L Q):=⟨At.code⟩
instance:Ctl (At w0 M E n0 N D φ L (Exit.then K Q .normal)) (At w0 M E n0 N D φ L K):=⟨At.thenNormal⟩
instance:Ctl (At w0 M E n0 N D φ L (Exit.then K Q .ret)) (At w0 M E n0 N D φ L (Q .ret)):=⟨At.thenRet⟩
instance {j:Nat}:Ctl (At w0 M E n0 N D φ L (Exit.then K Q (.exit j))) (At w0 M E n0 N D φ L (Q (.exit j))):=⟨At.thenExit⟩
instance {j:Nat}:Ctl (At w0 M E n0 N D φ L (Exit.then K Q (.goto j))) (At w0 M E n0 N D φ L (Q (.goto j))):=⟨At.thenGoto⟩
instance {id:Nat}:Ctl (At w0 M E n0 N D φ L (Exit.inBlock id Q .normal)) (At w0 M E n0 N D φ L (Q .normal)):=⟨At.inNormal⟩
instance {id:Nat}:Ctl (At w0 M E n0 N D φ L (Exit.inBlock id Q .ret)) (At w0 M E n0 N D φ L (Q .ret)):=⟨At.inRet⟩
instance {id j:Nat}:Ctl (At w0 M E n0 N D φ L (Exit.inBlock id Q (.goto j))) (At w0 M E n0 N D φ L (Q (.goto j))):=⟨At.inGoto⟩
instance {id:Nat}:Ctl (At w0 M E n0 N D φ L (Exit.inBlock id Q (.exit id))) (At w0 M E n0 N D φ L (Q .normal)):=⟨At.inHit⟩
instance:Ctl (At w0 M E n0 N D φ L (Exit.noGoto Q .normal)) (At w0 M E n0 N D φ L (Q .normal)):=⟨At.noGotoNormal⟩
instance:Ctl (At w0 M E n0 N D φ L (Exit.noGoto Q .ret)) (At w0 M E n0 N D φ L (Q .ret)):=⟨At.noGotoRet⟩
instance {j:Nat}:Ctl (At w0 M E n0 N D φ L (Exit.noGoto Q (.exit j))) (At w0 M E n0 N D φ L (Q (.exit j))):=⟨At.noGotoExit⟩
instance:Ctl (WF ro n P .skip w0 M E n0 N D φ L Q) (At w0 M E n0 N D φ L (Q .normal)):=⟨WF.skip⟩
instance:Ctl (WF ro n P .ret w0 M E n0 N D φ L Q) (At w0 M E n0 N D φ L (Q .ret)):=⟨WF.ret⟩
instance {id:Nat}:Ctl (WF ro n P (.exit id) w0 M E n0 N D φ L Q) (At w0 M E n0 N D φ L (Q (.exit id))):=⟨WF.exit⟩
instance {id:Nat}:Ctl (WF ro n P (.goto id) w0 M E n0 N D φ L Q) (At w0 M E n0 N D φ L (Q (.goto id))):=⟨WF.goto⟩
instance {id:Nat}:Ctl (WF ro n P (.label id) w0 M E n0 N D φ L Q) (At w0 M E n0 N D φ L (Q .normal)):=⟨WF.label⟩
instance {id:Nat}{c:Code}:Ctl (WF ro n P (.block id c) w0 M E n0 N D φ L Q) (WF ro n P c w0 M E n0 N D φ L (Exit.inBlock id Q)):=⟨WF.block⟩
instance {c:Code}:Ctl (WF none n P (.scope c) w0 M E n0 N D φ L Q) (WF none n P c w0 M E n0 N D φ L (Exit.noGoto Q)):=⟨WF.scope⟩
instance {id j:Nat}[h:NeB j id]:Ctl (At w0 M E n0 N D φ L (Exit.inBlock id Q (.exit j))) (At w0 M E n0 N D φ L (Q (.exit j))):=⟨At.inMiss h.h⟩
end
end Go.Proofs.YtjliakjbdcplcaaGreat.Vm
end
section
namespace Go.Proofs.YtjliakjbdcplcaaGreat.Vm
open Go.RowKit
def wd_ (l:List Nat)(m:Nat):Nat→Nat:=fun i=>if i < l.length then l.getD i 0 else m+(i - l.length)
def noMine:List HB→Bool
 | []=>true
 | b::l=>!b.mine && noMine l
theorem noMine_spec:∀{L:List HB},noMine L=true→∀i,(hp L i).mine=false
 | [],_,i=>by unfold hp;simp[HB.mine]
 | b::l,h,0=>by
  simp only[noMine,Bool.and_eq_true,Bool.not_eq_true']at h
  exact h.1
 | b::l,h,i+1=>by
  simp only[noMine,Bool.and_eq_true]at h
  have:=noMine_spec h.2 i
  unfold hp at this ⊢
  simpa using this
def FitL (ρ : Nat→Nat)(h:HM):List HB→List Nat→Prop
 | [],_=>True
 | b::l,n=>match n with
  | j::n=>Fit ρ b (h j)∧FitL ρ h l n
  | []=>False
theorem fitL_get {ρ : Nat→Nat}{h:HM}:∀{L:List HB} {l:List Nat},FitL ρ h L l→∀i,i < L.length→Fit ρ (hp L i) (h (l.getD i 0))
 | [],l,_,i,hi=>by simp at hi
 | b::L,[],hf,_,_=>by exact hf.elim
 | b::L,j::l,hf,0,_=>hf.1
 | b::L,j::l,hf,i+1,hi=>by
  have:=fitL_get hf.2 i (by simpa using hi)
  unfold hp at this ⊢
  simpa using this
def hG (n0:Nat)(L0 L1:List HB):HM:=fun i=>if i < n0 then hp L0 i else hp L1 i
theorem laid_ro {L0 L1:List HB}{h:HM}{l:List Nat}{m:Nat}{v:SV}(hlen:l.length=L0.length)(hpos:0 < L0.length)(h00:l.getD 0 0=0)(hz:hp L0 0=.gone)(hno:noMine L0=true)(hfit:FitL (wd_ l m) h L0 l)(hm:∀i,m≤i→i < m+(L1.length - L0.length)→h i=.dead)(hle:L0.length≤L1.length)
  (hst0:xo_ (hp L0) L0) (hstb:∀j,(h j).stable h) (hnew:NewL (hG L0.length L0 L1) (L1.drop L0.length)) (hv:zc_ (hG L0.length L0 L1) v) :
  Laid L0 L1 h (wrs h (newB (wd_ l m) m (L1.drop L0.length))) (wd_ l m) m v:=by
 obtain⟨k,hk⟩:∃k,k=L1.length - L0.length:=⟨_,rfl⟩
 have hdl:(L1.drop L0.length).length=k:=by rw[List.length_drop,hk]
 have hrl:∀i,i < L0.length→wd_ l m i=l.getD i 0:=fun i hi=>if_pos (by omega)
 have hrn:∀i,L0.length≤i→wd_ l m i=m+(i - L0.length):=fun i hi=>by
  unfold wd_;rw[if_neg (by omega),hlen]
 have hmin:=noMine_spec hno
 have hget:∀j,m≤j→(L1.drop L0.length).getD (j - m) .dead=hp L1 (L0.length+(j - m)):=fun j hj=>by
  unfold hp
  rw[List.getD_eq_getElem?_getD,List.getD_eq_getElem?_getD,List.getElem?_drop]
 have hnewj:∀j,m≤j→j < m+k→wrs h (newB (wd_ l m) m (L1.drop L0.length)) j=(hp L1 (L0.length+(j - m))).ren (wd_ l m):=fun j h1 h3=>by
  rw[wrs_newB,if_pos ⟨h1,by omega⟩,hget j h1]
 have holdj:∀j,¬(m≤j∧j < m+k)→wrs h (newB (wd_ l m) m (L1.drop L0.length)) j=h j:=fun j hj=>by
  rw[wrs_newB,if_neg (by rw[hdl];exact hj)]
 have bornold:∀j,(h j).born=true→¬(m≤j∧j < m+k):=fun j hj hc=>by
  rw[hm j hc.1 (by omega)]at hj;cases hj
 have more:∀i,(h i).born=true→(wrs h (newB (wd_ l m) m (L1.drop L0.length)) i).born=true:=fun i hi=>by rw[holdj i (bornold i hi)];exact hi
 have hfit':∀i,i < L0.length→Fit (wd_ l m) (hp L0 i) (h (wd_ l m i)):=fun i hi=>by rw[hrl i hi];exact fitL_get hfit i hi
 have moreG:∀i,(hG L0.length L0 L1 i).born=true→(wrs h (newB (wd_ l m) m (L1.drop L0.length)) (wd_ l m i)).born=true:=fun i hi=>by
  unfold hG at hi
  split at hi
  ·rename_i hlt
   exact more _ (hfit' i hlt).born
  ·rename_i hge
   have hlt:i < L1.length:=by
    rcases Nat.lt_or_ge i L1.length with h'|h'
    ·exact h'
    ·rw[xn_ h']at hi;cases hi
   rw[hrn i (by omega),hnewj _ (by omega) (by omega),show L0.length+(m+(i - L0.length) - m)=i by omega]
   cases hh:hp L1 i<;>rw[hh]at hi<;>first|rfl |(cases hi;done)
 have hnewS:=newL_spec hnew
 refine { z:=by rw[hrl 0 hpos,h00],z0:=hz,new:=fun i hi=>hrn i hi,pre:=hfit',inj:=fun i j hi hj hne hmi=>absurd hmi (by rw[hmin i];exact Bool.false_ne_true),img:=fun i hi hmi=>absurd hmi (by rw[hmin i];exact Bool.false_ne_true),old:=fun j hj _=>holdj j (bornold j hj),fresh:=fun j hj=>?_,un:=fun i hi hb=>?_,st0:=wf_ hst0,st2:=fun j=>?_,stv:=hv.ren moreG }
 ·by_cases hc:m≤j∧j < m+k
  ·exact .inr ⟨hc.1,hnewj j hc.1 hc.2,(hnewS _ (by omega)).2⟩
  ·left
   rw[holdj j hc]
   cases hh:h j<;>rw[hh]at hj<;>first|rfl |(cases hj;done)
 ·exact d23_
 ·by_cases hc:m≤j∧j < m+k
  ·rw[hnewj j hc.1 hc.2]
   have hs:=(hnewS (L0.length+(j - m)) (by omega)).1
   cases hh:hp L1 (L0.length+(j - m))with
   | own t u ex=>rw[hh]at hs;exact zc_.ren moreG hs
   | ro u=>rw[hh]at hs;exact zc_.ren moreG hs
   | raw o=>trivial
   | gone=>trivial
   | dead=>trivial
  ·rw[holdj j hc]
   have:(h j).stable h:=hstb j
   exact HB.stable_more this more
theorem callG {P:Program}{f:FuncId}{args:List SV}{L0 L1:List HB}{v:SV}{w0 w:World}{M:Nat→Prop}{β : Env}{h h':HM}{m:Nat}(l:List Nat)(H:zs_ P f args L0 v L1)(R:Rep w0 M β h' w)(hlen:l.length=L0.length)(hpos:0 < L0.length)(h00:l.getD 0 0=0)(hz:hp L0 0=.gone)(hno:noMine L0=true)(hfit:FitL (wd_ l m) h' L0 l)
  (hm:∀i,m≤i→h i=.dead) (hwr:∀p∈newB (wd_ l m) m (L1.drop L0.length),h' p.1=h p.1) (hle:L0.length≤L1.length)
  (hst0:xo_ (hp L0) L0) (hsta:ze_ (hp L0) args) (hnew:NewL (hG L0.length L0 L1) (L1.drop L0.length)) (hv:zc_ (hG L0.length L0 L1) v) :
  Calls P f (denL β (renL (wd_ l m) args)).toArray w fun e w'=>∃β',(∀i,(h' i).born=true→β i = β' i)∧Rep w0 M β' (wrs h' (newB (wd_ l m) m (L1.drop L0.length))) w'∧zc_ (wrs h' (newB (wd_ l m) m (L1.drop L0.length))) (v.ren (wd_ l m))∧e=.returned ((v.ren (wd_ l m)).den β'):=
 call_lit H R (laid_ro hlen hpos h00 hz hno hfit (fun i hi hlt=>by
  obtain⟨b,hb⟩:=newB_mem (ρ:=wd_ l m) (l:=L1.drop L0.length) hi (by rw[List.length_drop];exact hlt)
  exact(hwr _ hb).trans (hm i hi)) hle hst0 R.st hnew hv) hsta
def sg (l:List Nat):Nat→Nat:=fun i=>l.getD i 0
def PickL (σ : Nat→Nat)(h:HM):List HB→List Nat→Prop
 | [],_=>True
 | b::l,n=>match n with
  | j::n=>(b=.gone∨Less (h j) (b.ren σ))∧PickL σ h l n
  | []=>False
theorem pickL_get {σ : Nat→Nat}{h:HM}:∀{L:List HB} {l:List Nat},PickL σ h L l→∀i,i < L.length→hp L i=.gone∨Less (h (l.getD i 0)) ((hp L i).ren σ)
 | [],l,_,i,hi=>by simp at hi
 | b::L,[],hf,_,_=>by exact hf.elim
 | b::L,j::l,hf,0,_=>hf.1
 | b::L,j::l,hf,i+1,hi=>by
  have:=pickL_get hf.2 i (by simpa using hi)
  unfold hp at this ⊢
  simpa using this
def injL:List HB→List Nat→List Nat→Bool
 | [],_,_=>true
 | b::L,l,seen=>match l with
  | j::l=>bif b.mine then !memN j seen && injL L l (j::seen)else injL L l seen
  | []=>false
theorem injL_seen:∀{L:List HB} {l seen:List Nat},injL L l seen=true→∀i,i < L.length→(hp L i).mine=true→l.getD i 0 ∉ seen
 | [],l,seen,_,i,hi,_=>by simp at hi
 | b::L,[],seen,h,_,_,_=>by cases h
 | b::L,j::l,seen,h,i,hi,hm=>by
  simp only[injL]at h
  cases i with
  | zero=>
   have hb:b.mine=true:=hm
   rw[hb]at h
   simp only[cond_true,Bool.and_eq_true,Bool.not_eq_true']at h
   intro hc
   have:=memN_iff.2 hc
   simp only[List.getD_cons_zero]at this
   rw[h.1]at this
   cases this
  | succ i=>
   have hm':(hp L i).mine=true:=by unfold hp at hm ⊢;simpa using hm
   rw[List.getD_cons_succ]
   cases hb:b.mine with
   | false=>rw[hb]at h;exact injL_seen h i (by simpa using hi) hm'
   | true=>
    rw[hb]at h
    simp only[cond_true,Bool.and_eq_true]at h
    exact fun hc=>injL_seen h.2 i (by simpa using hi) hm' (.tail _ hc)
theorem injL_spec:∀{L:List HB} {l seen:List Nat},injL L l seen=true→∀i j,i < j→j < L.length→(hp L i).mine=true→(hp L j).mine=true→l.getD i 0≠l.getD j 0
 | [],l,seen,_,i,j,_,hj,_,_=>by simp at hj
 | b::L,[],seen,h,_,_,_,_,_,_=>by cases h
 | b::L,k::l,seen,h,i,j,hij,hj,hi,hjm=>by
  simp only[injL]at h
  obtain⟨j,rfl⟩:∃j',j=j'+1:=⟨j - 1,by omega⟩
  have hj':j < L.length:=by simpa using hj
  have hjm':(hp L j).mine=true:=by unfold hp at hjm ⊢;simpa using hjm
  rw[List.getD_cons_succ]
  cases i with
  | zero=>
   have hb:b.mine=true:=hi
   rw[hb]at h
   simp only[cond_true,Bool.and_eq_true]at h
   rw[List.getD_cons_zero]
   exact fun e=>injL_seen h.2 j hj' hjm' (by rw[←e];exact .head _)
  | succ i=>
   have hi':(hp L i).mine=true:=by unfold hp at hi ⊢;simpa using hi
   rw[List.getD_cons_succ]
   cases hb:b.mine with
   | false=>rw[hb]at h;exact injL_spec h i j (by omega) hj' hi' hjm'
   | true=>
    rw[hb]at h
    simp only[cond_true,Bool.and_eq_true]at h
    exact injL_spec h.2 i j (by omega) hj' hi' hjm'
theorem Rep.pick {w0 w:World}{M:Nat→Prop}{β : Env}{h:HM}{L:List HB}{l:List Nat}(R:Rep w0 M β h w)(h0:l.getD 0 0=0)(hz:hp L 0=.gone)(hp_:PickL (sg l) h L l)(hi:injL L l []=true)(hs:xo_ (hp L) L):Rep w0 M (fun i=>β (sg l i)) (hp L) w:=by
 have get:∀i,(hp L i)=.dead∨hp L i=.gone∨(i < L.length∧Less (h (sg l i)) ((hp L i).ren (sg l))):=fun i=>by
  rcases Nat.lt_or_ge i L.length with hlt|hge
  ·rcases pickL_get hp_ i hlt with e|e
   ·exact .inr (.inl e)
   ·exact .inr (.inr ⟨hlt,e⟩)
  ·exact .inl (xn_ hge)
 have mine:∀i,(hp L i).mine=true→i < L.length∧(h (sg l i)).mine=true:=fun i hm=>by
  rcases get i with e|e|⟨hlt,e⟩
  ·rw[e]at hm;cases hm
  ·rw[e]at hm;cases hm
  ·refine⟨hlt,less_mine e ?_⟩
   cases hh:hp L i<;>rw[hh]at hm<;>first|rfl |(cases hm;done)
 refine { os:=R.os,tape:=R.tape,output:=R.output,size:=R.size,frame:=R.frame,nil:=?_,nil0:=hz,st:=wf_ hs,blk:=fun i=>?_,own:=fun i a hm ha=>R.own _ a (mine i hm).2 ha,ro:=fun i v a hv ha hzz=>?_,dist:=fun i j ai aj hne hmi hmj hai haj=>?_,lt:=fun i a hm ha=>R.lt _ a (mine i hm).2 ha }
 ·show β (l.getD 0 0)=_
  rw[h0];exact R.nil
 ·rcases get i with e|e|⟨hlt,e⟩
  ·rw[e];trivial
  ·rw[e];trivial
  ·have hB:=R.blk (sg l i)
   exact holds_unren (β:=fun i=>β (sg l i)) (β':=β) (h:=hp L) (ρ:=sg l) (fun _ _=>rfl) (wf_ hs i) rfl (holds_less e hB)
 ·rcases get i with e|e|⟨hlt,e⟩
  ·rw[e]at hv;cases hv
  ·rw[e]at hv;cases hv
  ·rw[hv]at e
   exact R.ro _ (v.ren (sg l)) a (less_ro e) ha (by rw[size_ren];exact hzz)
 ·have h1:=mine i hmi
  have h2:=mine j hmj
  refine R.dist _ _ ai aj ?_ h1.2 h2.2 hai haj
  rcases Nat.lt_or_ge i j with hlt|hge
  ·exact injL_spec hi i j hlt h2.1 hmi hmj
  ·exact fun e=>injL_spec hi j i (by omega) h1.1 hmj hmi e.symm
def idTo (n:Nat)(l:List Nat):Bool:=(List.range n).all fun i=>Nat.beq (l.getD i 0) i
section
variable {P:Program} {T:Tab} {w0 w1:World} {M M1:Nat→Prop} {E:Env} {n0 N n:Nat} {D1:List Deferred} {φ : Fr} {L L2:List HB}
theorem At.endsPick (l:List Nat)(hT:TabOk P T){fn:Func}{c:Prop}{vs:List SV}{v:SV}{rs:List ResultVar}{L0:List HB}(A:Anc w0 M [] w1 M1 D1)(hro:RoOk w0 M E L0)(hL0:L0.length≤n0)(hrs:fn.results.toList=rs)(hr:resV T φ (hp L) rs=some (c,vs))(hc:c)(h00:l.getD 0 0=0)(hz:hp L2 0=.gone)(hid:idTo n0 l=true)(hpk:PickL (sg l) (hp L) L2 l)(hinj:injL L2 l []=true)(hs:xo_ (hp L2) L2)(hsub:RoSub L L0)(hv:∀β,(resS vs).den β =(v.ren (sg l)).den β)(hst:zc_ (hp L2) v) :
  At w1 M1 E n0 N D1 φ L (EndsM n P fn w0 M E n0 v L2 .ret):=fun a w hS=>by
 obtain⟨⟨β,hE,R,F⟩,hbn,_,hd⟩:=hS
 subst hrs
 have R0:Rep w0 M β (hp L) w:=R.back A fun i u a hi ha hz=>by
  obtain⟨h1,h2⟩:=roSub_spec hsub i u hi
  exact hro i u a h1 (by rw[←hE i (Nat.lt_of_lt_of_le h2 hL0)];exact ha) hz
 obtain⟨rs,d1,n1,k1⟩:=A.marks
 simp only[EndsM,bodyPostM,hd,d1,List.append_nil]
 refine leaves_marks (β:=β) (h:=hp L) rs w R0 n1 (fun r hr=>?_) (fun w' R'=>?_)
 ·exact d22_
 ·obtain⟨q1,q2⟩:=resV_ok ⟨hT,R',F⟩ hr hc
  refine⟨_,q2,fun i=>β (sg l i),fun i hi=>?_,R'.pick h00 hz hpk hinj hs,hst,?_⟩
  ·exact d24_
  ·rw[hv]
   congr 1
   exact den_ren (h:=hp L2) (fun _ _=>rfl) hst
end
theorem hp_append1 (L:List HB)(x:HB):hp (L++[x])=upd (hp L) L.length x:=by
 funext i
 unfold hp upd
 by_cases h2:i=L.length
 ·subst h2;simp
 ·rw[if_neg h2]
  rcases Nat.lt_or_ge i L.length with h|h
  ·simp[List.getElem?_append_left h]
  ·simp[List.getElem?_eq_none (show (L++[x]).length≤i by simp;omega),List.getElem?_eq_none h]
theorem At.nil {w0:World}{M:Nat→Prop}{E:Env}{n0 N:Nat}{D:List Deferred}{φ : Fr}{L:List HB}{K:Act→World→Prop}(t:Tmp)(ty k:Nat)(f:Nat→SV)(hl:look φ t=some (.sl 0 0 [] 0 0 0 (some 0)))(hf:∀(h:HM) (q:Nat),zc_ h (f q))
  (h:At w0 M E n0 N D ((t,.sl L.length L.length [] k 0 0 none) :: φ) (L++[.own ty (.arr 0 k f) false]) K):At w0 M E n0 N D φ L K:=fun a w hS=>by
 obtain⟨⟨β,hE,R,F⟩,hbn,hsz,hd⟩:=hS
 have hm:hp L L.length=.dead:=xn_ (Nat.le_refl _)
 have R1:=nothing R (e:=ty) (k:=k) (g:=f) hm (fun q=>hf _ q)
 have hag:∀i,(hp L i).born=true→β i=setE β L.length (none,0) i:=ym_ hm
 have hborn:∀i,(hp L i).born=true→(upd (hp L) L.length (.own ty (.arr 0 k f) false) i).born=true:=fun i hi=>by
  unfold Vm.upd;split
  ·rfl
  ·exact hi
 refine h a w ⟨⟨setE β L.length (none,0),fun i hi=>(hag i (hbn i hi)).symm.trans (hE i hi),by rw[hp_append1];exact R1,fun u v hu=>?_⟩,fun i hi=>by rw[hp_append1];exact hborn i (hbn i hi),hsz,hd⟩
 rw[hp_append1]
 simp only[look]at hu
 cases hq:Nat.beq t u with
 | true=>
  rw[hq]at hu
  have:=Nat.eq_of_beq_eq_true hq
  subst this
  injection hu with hu
  subst hu
  refine⟨?_,?_⟩
  ·simp only[zc_,zy_];exact⟨rfl,rfl⟩
  ·rw[(F t _ hl).2]
   simp[SV.den,yg_,R.nil]
 | false=>
  rw[hq]at hu
  obtain⟨k1,k2⟩:=F u v hu
  exact⟨k1.more hborn,by rw[k2];exact k1.den hag⟩
end Go.Proofs.YtjliakjbdcplcaaGreat.Vm
end
section
open Go.Proofs.YtjliakjbdcplcaaGreat.Vm Go.RowKit
attribute [push_cast] runR opG gtmp gval gus opX tmpsOf tm tmO tmP restr look y9_ tab tys zs ets eqB eqBL allB numOf ieq Int.cast_ofNat_Int Int.ofNat_zero beq_true beq_false frameOf ev evL ofV opV loadV noW pushF wrsL setH allBorn allGone HB.born HB.isGone HB.val SV.plain dstOk hp nav fitsT SV.size sizeL SV.isAgg TK.size TK.agg bin binE binN binI arN arI cmpN cmpI keq kn narrow callV storeV setp fillV buildV buildSliceV makeV sliceV appendV appendFV slice3V copyV List.isEmpty_nil xm_ evO asN ite_t ite_f ite_bool ite_int ite_nat maxV v_beq v_ble v_blt cond_true cond_false List.getElem?_cons_zero List.getElem?_cons_succ List.getD_cons_zero List.getD_cons_succ List.getD_nil List.length_cons List.length_nil List.take_succ_cons List.take_zero List.set_cons_zero List.set_cons_succ List.cons_append List.nil_append List.append_assoc List.replicate_succ List.replicate_zero Nat.zero_add Nat.add_zero decide_true decide_false Bool.true_and Bool.and_true Bool.false_and Bool.and_false Bool.true_or Bool.or_true Bool.false_or Bool.or_false beq_self_eq_true Bool.or_self Nat.lt_irrefl Nat.not_lt_zero Nat.le_refl Option.getD_some Option.getD_none BEq.rfl Bool.not_true Bool.not_false Bool.cond_true_left Bool.cond_false_right
section
namespace Go.Proofs.YtjliakjbdcplcaaGreat.Vm
open Go.RowKit
theorem ext_getD {α : Type}{xs ys:List α}(d:α)(hl:xs.length=ys.length)(h:∀q,q < xs.length→xs.getD q d=ys.getD q d):xs=ys:=by
 apply List.ext_getElem hl
 intro q h1 h2
 have:=h q h1
 simpa [List.getD_eq_getElem?_getD,List.getElem?_eq_getElem h1,List.getElem?_eq_getElem h2]using this
theorem ins_ext {a b:Ins}(h1:a.op=b.op)(h2:a.a=b.a)(h3:a.b=b.b)(h4:a.c=b.c)(h5:a.n=b.n):a=b:=by cases a;cases b;simp_all
theorem snd_ext {a b:Snd}(h1:a.port=b.port)(h2:a.delay=b.delay)(h3:a.value=b.value):a=b:=by cases a;cases b;simp_all
def eqL {α : Type}[DecidableEq α](xs ys:List α):Bool:=decide (xs=ys)
theorem eqL_true {α : Type}[DecidableEq α]{xs ys:List α}(h:xs=ys):eqL xs ys=true:=by unfold eqL;simp[h]
theorem eqL_false {α : Type}[DecidableEq α]{xs ys:List α}(h:xs≠ys):eqL xs ys=false:=by unfold eqL;simp[h]
theorem eqSnd_lit (xs ys:List Snd)(p1 p2:Nat)(hx:xs.length≤281474976710656):zs_ Tryz.prog 53 [.sl 1 2 [] 3 0 xs.length (some p1),.sl 3 4 [] 3 0 ys.length (some p2)] [.gone,.gone,.ro (.arr xs.length 3 (zo_ xs)),.gone,.ro (.arr ys.length 3 (zo_ ys))] (.bool (eqL xs ys)) [.gone]:=by
 refine zf_ (fn:=Tryz.f53) 5 26 0 rfl rfl rfl rfl rfl u2_ rfl fun w0 M E hro=>?_
 repeat' (first|refine Ctl.h ?_ |((with_reducible intro hif);first |(focus (cases hif;done)) |((try simp only[JH]at hif);try exact hy_)) |((with_reducible first|apply J22 zv_ za_|apply J23 fol zv_ za_|apply J24);(·rfl);(· exact k13_);(try kernel_rfl);try exact yr_)|fail)
 ·have hne:xs≠ys:=fun e=>hif (by rw[e])
  apply At.endsRet za_ (fn:=Tryz.f53) (rs:=[.tmp 4]) Anc.refl hro (lb_ rfl) rfl
  ·exact k5_
  ·exact k6_
  ·exact k7_
  ·rfl
  ·exact k8_
  ·exact k9_
  ·rw[eqL_false hne];exact fun β=>rfl
  ·exact k8_
 ·refine WF.loopAt (fun j=>j≤xs.length∧∀q,q < j→xs.getD q ⟨0,0,0⟩=ys.getD q ⟨0,0,0⟩) (fun j=>[(0,.sl 1 2 [] 3 0 xs.length (some p1)),(1,.sl 3 4 [] 3 0 ys.length (some p2)),(12,.nat .i64 xs.length),(13,.nat .i64 j)]) (fun j=>[.gone,.gone,.ro (.arr xs.length 3 (zo_ xs)),.gone,.ro (.arr ys.length 3 (zo_ ys))]) (fun j=>xs.length - j) 0 ⟨Nat.zero_le _,fun q hq=>absurd hq (Nat.not_lt_zero q)⟩ ?_ ?_ rfl ?_ ?_ rfl ?_
  ·exact we_
  ·exact k7_
  ·exact k8_
  ·exact k8_
  have hlen:=hif
  rintro j ⟨hj,heq⟩
  repeat' (first|refine Ctl.h ?_ |((with_reducible intro hif);first |(focus (cases hif;done)) |((try simp only[JH]at hif);try exact hy_)) |((with_reducible first|apply J22 zv_ za_|apply J23 fol zv_ za_|apply J24);(·rfl);(· (simp only[push_cast,↓JP,Nat.reduceAdd,Nat.reduceEqDiff,Nat.reduceLT,Nat.reduceMul,Nat.reduceLeDiff,reduceCtorEq,reduceIte,zo_,sndS,inN];rfl));(try kernel_rfl);try exact k14_)|fail)
  ·have hne:xs≠ys:=by rintro rfl;simp at hif
   apply At.endsRet za_ (fn:=Tryz.f53) (rs:=[.tmp 4]) Anc.refl hro (lb_ rfl) rfl
   ·exact k5_
   ·exact k6_
   ·exact k7_
   ·rfl
   ·exact k8_
   ·exact k9_
   ·rw[eqL_false hne];exact fun β=>rfl
   ·exact k8_
  ·have hq:xs.getD j ⟨0,0,0⟩=ys.getD j ⟨0,0,0⟩:=snd_ext (of_decide_eq_true hif.1) (of_decide_eq_true hif.2.1) (of_decide_eq_true hif.2.2)
   refine At.next (j+1) ?_ ?_ ?_ rfl ?_ ?_ rfl
   ·exact k11_
   ·exact we_
   ·exact k7_
   ·exact k8_
   ·exact k8_
  ·have hjn:j=xs.length:=by omega
   subst hjn
   have he:xs=ys:=ext_getD ⟨0,0,0⟩ hlen heq
   apply At.endsRet za_ (fn:=Tryz.f53) (rs:=[.tmp 4]) Anc.refl hro (lb_ rfl) rfl
   ·exact k5_
   ·exact k6_
   ·exact k7_
   ·rfl
   ·exact k8_
   ·exact k9_
   ·rw[eqL_true he];exact fun β=>rfl
   ·exact k8_
def sEqSnd:yn_:=fun args h m=>match args with
 | [v1,v2]=>match xm_ h 3 (.tup []) v1,xm_ h 3 (.tup []) v2 with
  | some (c1,n1,f1,r1),some (c2,n2,f2,r2)=>some (c1∧c2∧(∀q,q < n1→isSnd (f1 q)=true)∧(∀q,q < n2→isSnd (f2 q)=true)∧((ls zw_ n1 f1).length≤281474976710656),.bool (eqL (ls zw_ n1 f1) (ls zw_ n2 f2)),r1++r2,[])
  | _,_=>none
 | _=>none
theorem sEqSnd_ok:zi_ Tryz.prog 53 sEqSnd:=by
 refine⟨zg_ (by kernel_rfl),fun args h m c v rd wr hs hm hc w0 M β h' w R hrd hwr hst=>?_⟩
 unfold sEqSnd at hs
 split at hs
 ·rename_i v1 v2
  split at hs
  ·rename_i c1 n1 f1 r1 c2 n2 f2 r2 a1 a2
   simp only[Option.some.injEq,Prod.mk.injEq]at hs
   obtain⟨rfl,rfl,rfl,rfl⟩:=hs
   obtain⟨k1,k2,g1,g2,y1⟩:=hc
   obtain⟨A1,p1,d1,e1,t1⟩:=zh_ R a1 k1 (fun i hi=>hrd i (List.mem_append_left _ hi)) (by omega)
   obtain⟨A2,p2,d2,e2,t2⟩:=zh_ R a2 k2 (fun i hi=>hrd i (List.mem_append_right _ hi)) (by omega)
   refine yh_ (views:=[⟨3,(ls zw_ n1 f1).length,zo_ (ls zw_ n1 f1),A1,p1⟩,⟨3,(ls zw_ n2 f2).length,zo_ (ls zw_ n2 f2),A2,p2⟩]) (eqSnd_lit (ls zw_ n1 f1) (ls zw_ n2 f2) p1 p2 y1) ?_ R hm hwr ?_ ?_ ?_
   ·intro x hx
    simp only[List.mem_cons,List.not_mem_nil,or_false]at hx
    rcases hx with rfl|rfl
    ·exact viewSnd t1 e1 g1
    ·exact viewSnd t2 e2 g2
   ·exact d25_
   ·exact k8_
   ·exact k8_
  ·cases hs
 ·cases hs
theorem zu_ (k k':IntKind)(n:Int):isI k (.int k' n)=keq k k':=rfl
theorem zt_ (k k':IntKind)(n:Nat):isI k (.nat k' n)=keq k k':=rfl
theorem xu_ (l:List Int):ls iOf l.length (zp_ l)=l:=ls_of (g:=iOf) (e:=fun x=>.int .i64 x) (fun _=>rfl) l 0
theorem xj_ (l:List Int):ls iOf l.length (fun q=>zp_ l q)=l:=xu_ l
theorem ls_prS (l:List Ins):ls zm_ l.length (prS l)=l:=ls_of z2_ l _
theorem ls_prS' (l:List Ins):ls zm_ l.length (fun q=>prS l q)=l:=ls_prS l
theorem ls_prS2 (l:List Ins):ls zm_ l.length (fun q=>yu_ (l.getD q ⟨0,0,0,0,0⟩))=l:=ls_prS l
theorem ls_sndsS (l:List Snd):ls zw_ l.length (zo_ l)=l:=ls_of z1_ l _
theorem ls_sndsS' (l:List Snd):ls zw_ l.length (fun q=>zo_ l q)=l:=ls_sndsS l
theorem prS_ren (ρ : Nat→Nat)(l:List Ins):(fun q=>(prS l q).ren ρ)=prS l:=by
 funext q;unfold prS;simp only[yu_,SV.ren,renL]
theorem strDen {β : Env}{s:ByteArray}:(SV.str s).den β = .string s:=rfl
def cntB (s:ByteArray)(c:Int):Nat→Nat
 | 0=>0
 | j+1=>cntB s c j+if bat s j=c then 1 else 0
theorem cntB_le (s:ByteArray)(c:Int):∀j,cntB s c j≤j
 | 0=>Nat.le_refl 0
 | j+1=>by
  have:=cntB_le s c j
  unfold cntB
  split<;>omega
theorem cnt_lit (s:ByteArray)(c:Int)(hs:s.size≤1000000):zs_ Tryz.prog 141 [.str s,.int .u8 c] [.gone] (.nat .i64 (cntB s c s.size)) [.gone]:=by
 refine zf_ (fn:=Tryz.f141) 1 21 0 rfl rfl rfl rfl rfl u3_ rfl fun w0 M E hro=>?_
 repeat' (first|refine Ctl.h ?_ |((with_reducible intro hif);first |(focus (cases hif;done)) |((try simp only[JH]at hif);try exact hy_)) |((with_reducible first|apply J22 zv_ za_|apply J23 fol zv_ za_|apply J24);(·rfl);(· exact k13_);(try kernel_rfl);try exact yr_)|fail)
 refine WF.loopAt (fun (j:Nat)=>j≤s.size) (fun (j:Nat)=>[(0,.str s),(1,.int .u8 c),(5,.nat .i64 (cntB s c j)),(6,.nat .i64 j)]) (fun (j:Nat)=>[.gone]) (fun (j:Nat)=>s.size - j) 0 (Nat.zero_le _) ?_ ?_ rfl ?_ ?_ rfl ?_
 ·exact we_
 ·exact k7_
 ·exact k8_
 ·exact k8_
 intro j hj
 have hcj:=cntB_le s c j
 by_cases hjl:j < s.size
 ·by_cases hc:bat s j=c
  ·have e:cntB s c (j+1)=cntB s c j+1:=by rw[cntB,if_pos hc]
   repeat' (first|refine Ctl.h ?_ |((with_reducible intro hif);first |(focus (cases hif;done)) |((try simp only[JH]at hif);try exact hy_)) |((with_reducible first|apply J22 zv_ za_|apply J23 fol zv_ za_|apply J24);(·rfl);(· exact k16_);(try kernel_rfl);try exact k15_)|fail)
   refine At.next (j+1) ?_ ?_ ?_ rfl ?_ ?_ rfl
   ·exact⟨hjl,by omega⟩
   ·((repeat' (first|exact trivial|apply And.intro))<;>(first|rfl |(rw[e];rfl)))
   ·exact k7_
   ·exact k8_
   ·exact k8_
  ·have e:cntB s c (j+1)=cntB s c j:=by rw[cntB,if_neg hc];rfl
   repeat' (first|refine Ctl.h ?_ |((with_reducible intro hif);first |(focus (cases hif;done)) |((try simp only[JH]at hif);try exact hy_)) |((with_reducible first|apply J22 zv_ za_|apply J23 fol zv_ za_|apply J24);(·rfl);(· exact k16_);(try kernel_rfl);try exact k15_)|fail)
   refine At.next (j+1) ?_ ?_ ?_ rfl ?_ ?_ rfl
   ·exact⟨hjl,by omega⟩
   ·((repeat' (first|exact trivial|apply And.intro))<;>(first|rfl |(rw[e];rfl)))
   ·exact k7_
   ·exact k8_
   ·exact k8_
 ·obtain rfl:j=s.size:=by omega
  repeat' (first|refine Ctl.h ?_ |((with_reducible intro hif);first |(focus (cases hif;done)) |((try simp only[JH]at hif);try exact hy_)) |((with_reducible first|apply J22 zv_ za_|apply J23 fol zv_ za_|apply J24);(·rfl);(· exact k17_);(try kernel_rfl);try exact yr_)|fail)
  apply At.endsRet za_ (fn:=Tryz.f141) (rs:=[.tmp 4]) Anc.refl hro (lb_ rfl) rfl
  ·exact k5_
  ·exact k6_
  ·exact k7_
  ·rfl
  ·exact k8_
  ·exact k9_
  ·exact fun β=>rfl
  ·exact k8_
def sRCnt:yn_:=fun args h m=>match args with
 | [.str v1,v2]=>bif isI .u8 v2 then some ((v1.size≤1000000),.nat .i64 (cntB v1 (iOf v2) v1.size),[],[])else none
 | _=>none
theorem sRCnt_ok:zi_ Tryz.prog 141 sRCnt:=by
 refine⟨zg_ (by kernel_rfl),fun args h m c v rd wr hs hm hc w0 M β h' w R hrd hwr hst=>?_⟩
 unfold sRCnt at hs
 split at hs
 ·rename_i v1 v2
  obtain⟨hb,hs⟩:=zl_ hs
  simp only[Option.some.injEq,Prod.mk.injEq]at hs
  obtain⟨rfl,rfl,rfl,rfl⟩:=hs
  have b2:=hb
  have y1:=hc
  refine yh_ (views:=[]) (cnt_lit v1 (iOf v2) y1) ?_ R hm hwr ?_ ?_ ?_
  ·intro x hx;cases hx
  ·intro β1 hv
   simp only[denL,yb_,ya_,z9_,zx_,zb_,strDen,zd_ b2]
  ·exact k8_
  ·exact k8_
 ·cases hs
theorem formC_cases (op:Int):(32 < op∧op≤49∧x1_ op=1)∨((op=1∨op=2)∧x1_ op=2)∨(op=3∧x1_ op=3)∨(4≤op∧op≤7∧x1_ op=4)∨(op=8∧x1_ op=5)∨(op=9∧x1_ op=6)∨((op=10∨op=11)∧x1_ op=7)∨(¬(32 < op∧op≤49)∧¬(1≤op∧op≤11)∧x1_ op=0):=by
 unfold x1_
 repeat' split
 all_goals omega
theorem rform_lit (op:Int)(h0:0≤op∧op≤255):zs_ Tryz.prog 140 [.int .u8 op] [.gone] (.tup [.str (xh_ (x1_ op)),.bool (decide (x1_ op≠0))]) [.gone]:=by
 rcases formC_cases op with ⟨h1,h2,hk⟩|⟨h1,hk⟩|⟨h1,hk⟩|⟨h1,h2,hk⟩|⟨h1,hk⟩|⟨h1,hk⟩|⟨h1,hk⟩|⟨h1,h2,hk⟩
 all_goals
  rw[hk]
  refine zf_ (fn:=Tryz.f140) 1 28 0 rfl rfl rfl rfl rfl u3_ rfl fun w0 M E hro=>?_
  repeat' (first|refine Ctl.h ?_ |((with_reducible intro hif);first |(focus (cases hif;done)) |((try simp only[JH]at hif);try exact hy_)) |((with_reducible first|apply J22 zv_ za_|apply J23 fol zv_ za_|apply J24);(·rfl);(· exact k13_);(try kernel_rfl);try exact yr_)|fail)
 all_goals
  apply At.endsRet za_ (fn:=Tryz.f140) (rs:=[.tmp 2,.tmp 3]) Anc.refl hro (lb_ rfl) rfl
  ·exact k5_
  ·exact k6_
  ·exact k7_
  ·rfl
  ·exact k8_
  ·exact k9_
  ·(intro β;first|rfl |(exfalso;simp only[Bool.and_eq_false_iff,decide_eq_false_iff_not]at hif;omega))
  ·exact k8_
def sRForm:yn_:=fun args h m=>match args with
 | [v1]=>bif isI .u8 v1 then some ((0≤(iOf v1)∧(iOf v1)≤255),.tup [.str (xh_ (x1_ (iOf v1))),.bool (decide (x1_ (iOf v1)≠0))],[],[])else none
 | _=>none
theorem sRForm_ok:zi_ Tryz.prog 140 sRForm:=by
 refine⟨zg_ (by kernel_rfl),fun args h m c v rd wr hs hm hc w0 M β h' w R hrd hwr hst=>?_⟩
 unfold sRForm at hs
 split at hs
 ·rename_i v1
  obtain⟨hb,hs⟩:=zl_ hs
  simp only[Option.some.injEq,Prod.mk.injEq]at hs
  obtain⟨rfl,rfl,rfl,rfl⟩:=hs
  have b1:=hb
  have y1:=hc
  refine yh_ (views:=[]) (rform_lit (iOf v1) y1) ?_ R hm hwr ?_ ?_ ?_
  ·intro x hx;cases hx
  ·exact d26_
  ·exact k8_
  ·exact k8_
 ·cases hs
end Go.Proofs.YtjliakjbdcplcaaGreat.Vm
end
end
section
namespace Go.Proofs.YtjliakjbdcplcaaGreat.Vm
open Go.RowKit
theorem insS_agg (i:Ins):(yu_ i).isAgg=true:=rfl
theorem insS_plain (i:Ins):(yu_ i).plain=true:=rfl
theorem xt_ (i:Ins):nav (yu_ i) []=some (True,yu_ i):=rfl
theorem y8_ (i:Ins)(pa:List Stp):nav (yu_ i) (.f 0 0::pa)=nav (.int .u8 i.op) pa:=rfl
theorem y7_ (i:Ins)(pa:List Stp):nav (yu_ i) (.f 1 1::pa)=nav (.int .u8 i.a) pa:=rfl
theorem y6_ (i:Ins)(pa:List Stp):nav (yu_ i) (.f 2 2::pa)=nav (.int .u8 i.b) pa:=rfl
theorem y5_ (i:Ins)(pa:List Stp):nav (yu_ i) (.f 3 3::pa)=nav (.int .u8 i.c) pa:=rfl
theorem y4_ (i:Ins)(pa:List Stp):nav (yu_ i) (.f 4 4::pa)=nav (.int .i64 i.n) pa:=rfl
theorem sndS_size (i:Snd):(sndS i).size=3:=rfl
theorem sndS_agg (i:Snd):(sndS i).isAgg=true:=rfl
theorem sndS_plain (i:Snd):(sndS i).plain=true:=rfl
theorem xs_ (i:Snd):nav (sndS i) []=some (True,sndS i):=rfl
theorem y3_ (i:Snd)(pa:List Stp):nav (sndS i) (.f 0 0::pa)=nav (.int .i64 i.port) pa:=rfl
theorem y2_ (i:Snd)(pa:List Stp):nav (sndS i) (.f 1 1::pa)=nav (.int .i64 i.delay) pa:=rfl
theorem y1_ (i:Snd)(pa:List Stp):nav (sndS i) (.f 2 2::pa)=nav (.int .i64 i.value) pa:=rfl
set_option linter.defProp false
def JK:=And.intro @insS_size (And.intro @insS_agg (And.intro @insS_plain (And.intro @sndS_size (And.intro @sndS_agg @sndS_plain))))
end Go.Proofs.YtjliakjbdcplcaaGreat.Vm
end

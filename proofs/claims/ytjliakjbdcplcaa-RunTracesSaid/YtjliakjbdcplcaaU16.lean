import Derived.Test.YtjliakjbdcplcaaU1
import Derived.Test.YtjliakjbdcplcaaU11
import Derived.Test.YtjliakjbdcplcaaU12
import Derived.Test.YtjliakjbdcplcaaU15
set_option linter.unusedSimpArgs false
set_option linter.unusedVariables false
set_option maxRecDepth 100000
set_option maxHeartbeats 4000000
section
namespace Go.Proofs.Ytjliakjbdcplcaa.Vm
open Go.RowKit
attribute [local push_cast] eqB eqBL allB prS zt_ i64S xo_ y3_ y2_ y1_ y0_ yz_ xn_ yy_ yx_ yw_ zy_ zv_ zw_ zu_ y5_ y4_ iOf JM mS macP kF wFm JE inR inN
def cD:FuncId→Option yr_:=xb_ [(118,mS (kF 1 false)),(119,mS (kF 2 false)),(120,mS (kF 3 false)),(121,mS (kF 4 false)),(122,mS (kF 5 false)),(123,mS (kF 6 false)),(124,mS (kF 7 false)),(125,mS (kF 8 true)),(126,mS (kF 9 false)),(127,mS (kF 10 false)),(128,mS (kF 11 false)),(129,mS wFm)]
theorem xk_:∀f S,cD f=some S→zh_ Try.prog f S:=zn_ ⟨m_halt,m_fail,m_set,m_move,m_load,m_store,m_draw,m_send,m_jump,m_jumpZero,m_jumpNeg,m_word,trivial⟩
def kindF:Nat→SV:=fun j=>(SV.ite (decide (j=10)) (.agg [.nat .u8 11,.fn 128 []]) (SV.ite (decide (j=9)) (.agg [.nat .u8 10,.fn 127 []]) (SV.ite (decide (j=8)) (.agg [.nat .u8 9,.fn 126 []]) (SV.ite (decide (j=7)) (.agg [.nat .u8 8,.fn 125 []]) (SV.ite (decide (j=6)) (.agg [.nat .u8 7,.fn 124 []]) (SV.ite (decide (j=5)) (.agg [.nat .u8 6,.fn 123 []]) (SV.ite (decide (j=4)) (.agg [.nat .u8 5,.fn 122 []]) (SV.ite (decide (j=3)) (.agg [.nat .u8 4,.fn 121 []]) (SV.ite (decide (j=2)) (.agg [.nat .u8 3,.fn 120 []]) (SV.ite (decide (j=1)) (.agg [.nat .u8 2,.fn 119 []]) (SV.ite (decide (j=0)) (.agg [.nat .u8 1,.fn 118 []]) (.agg [.nat .u8 0,.nilf]))))))))))))
theorem kindF_0:kindF 0=.agg [.nat .u8 1,.fn 118 []]:=rfl
theorem kindF_1:kindF 1=.agg [.nat .u8 2,.fn 119 []]:=rfl
theorem kindF_2:kindF 2=.agg [.nat .u8 3,.fn 120 []]:=rfl
theorem kindF_3:kindF 3=.agg [.nat .u8 4,.fn 121 []]:=rfl
theorem kindF_4:kindF 4=.agg [.nat .u8 5,.fn 122 []]:=rfl
theorem kindF_5:kindF 5=.agg [.nat .u8 6,.fn 123 []]:=rfl
theorem kindF_6:kindF 6=.agg [.nat .u8 7,.fn 124 []]:=rfl
theorem kindF_7:kindF 7=.agg [.nat .u8 8,.fn 125 []]:=rfl
theorem kindF_8:kindF 8=.agg [.nat .u8 9,.fn 126 []]:=rfl
theorem kindF_9:kindF 9=.agg [.nat .u8 10,.fn 127 []]:=rfl
theorem kindF_10:kindF 10=.agg [.nat .u8 11,.fn 128 []]:=rfl
def doF:MF:=fun ar s v x=>match ar with
 | []=>some (RI x∧VOk v∧SOk s,fun _=>.int .i64 (doE s v x),doS s v x,x,true)
 | _=>none
theorem m_do:zh_ Try.prog 116 (mS doF):=mS_ok (by kernel_rfl) fun ar s v x cond val s' x' mv hF hc=>by
 unfold doF at hF
 split at hF
 ·cases hF
  obtain⟨R,V,S⟩:=hc
  obtain⟨o0,o1,_,_,_,_,_,_,_,_⟩:=R.ok
  have hcls:=R.cls
  refine⟨fun _=>rfl,fun _=>trivial,fun _ _=>rfl,fun _ _ _=>trivial,?_⟩
  refine zm_ (fn:=Try.f116) 4 35 0 rfl rfl rfl rfl rfl u1_ rfl fun w0 M E hro=>?_
  repeat' (first|refine Ctl.h ?_ |((with_reducible intro hif);first |(focus (cases hif;done)) |((try simp only[JH]at hif);try exact hy_)) |((with_reducible first|apply J22 xk_ za_|apply J23 fol xk_ za_|apply J24);(·rfl);(· exact k30_);(try kernel_rfl);try exact z9_)|fail)
  refine WF.loopAt (fun k=>k≤11∧∀j:Nat,j < k→x.op≠(j:Int)+1) (fun k=>[(0,.ptr 1 []),(16,.arr 11 2 kindF),(17,.nat .i64 k)]) (fun k=>[.gone,mB s v x 2 3,cB s,sB s]) (fun k=>11 - k) 0 ⟨by omega,fun j h1=>by omega⟩ ?_ ?_ rfl ?_ ?_ rfl ?_
  ·exact k28_
  ·exact k7_
  ·exact k8_
  ·exact k8_
  rintro k ⟨hk,hop⟩
  have hk12:k=0∨k=1∨k=2∨k=3∨k=4∨k=5∨k=6∨k=7∨k=8∨k=9∨k=10∨k=11:=by omega
  rcases hk12 with rfl|rfl|rfl|rfl|rfl|rfl|rfl|rfl|rfl|rfl|rfl|rfl
  ·by_cases ho:x.op=1
   ·exact d18_
   ·repeat' (first|refine Ctl.h ?_ |((with_reducible intro hif);first |(focus (cases hif;done)) |((try simp only[JH]at hif);try exact hy_)) |((with_reducible first|apply J22 xk_ za_|apply J23 fol xk_ za_|apply J24);(·rfl);(· exact k31_);(try kernel_rfl);try exact z9_)|fail)
    refine At.next 1 ?_ ?_ ?_ rfl ?_ ?_ rfl
    ·refine⟨⟨by omega,fun j h1=>?_⟩,by omega⟩;by_cases e:j=0;(subst e;exact ho);exact hop j (by omega)
    ·exact k28_
    ·exact k7_
    ·exact k8_
    ·exact k8_
  ·by_cases ho:x.op=2
   ·exact d18_
   ·repeat' (first|refine Ctl.h ?_ |((with_reducible intro hif);first |(focus (cases hif;done)) |((try simp only[JH]at hif);try exact hy_)) |((with_reducible first|apply J22 xk_ za_|apply J23 fol xk_ za_|apply J24);(·rfl);(· exact k31_);(try kernel_rfl);try exact z9_)|fail)
    refine At.next 2 ?_ ?_ ?_ rfl ?_ ?_ rfl
    ·refine⟨⟨by omega,fun j h1=>?_⟩,by omega⟩;by_cases e:j=1;(subst e;exact ho);exact hop j (by omega)
    ·exact k28_
    ·exact k7_
    ·exact k8_
    ·exact k8_
  ·by_cases ho:x.op=3
   ·exact d18_
   ·repeat' (first|refine Ctl.h ?_ |((with_reducible intro hif);first |(focus (cases hif;done)) |((try simp only[JH]at hif);try exact hy_)) |((with_reducible first|apply J22 xk_ za_|apply J23 fol xk_ za_|apply J24);(·rfl);(· exact k31_);(try kernel_rfl);try exact z9_)|fail)
    refine At.next 3 ?_ ?_ ?_ rfl ?_ ?_ rfl
    ·refine⟨⟨by omega,fun j h1=>?_⟩,by omega⟩;by_cases e:j=2;(subst e;exact ho);exact hop j (by omega)
    ·exact k28_
    ·exact k7_
    ·exact k8_
    ·exact k8_
  ·by_cases ho:x.op=4
   ·exact d18_
   ·repeat' (first|refine Ctl.h ?_ |((with_reducible intro hif);first |(focus (cases hif;done)) |((try simp only[JH]at hif);try exact hy_)) |((with_reducible first|apply J22 xk_ za_|apply J23 fol xk_ za_|apply J24);(·rfl);(· exact k31_);(try kernel_rfl);try exact z9_)|fail)
    refine At.next 4 ?_ ?_ ?_ rfl ?_ ?_ rfl
    ·refine⟨⟨by omega,fun j h1=>?_⟩,by omega⟩;by_cases e:j=3;(subst e;exact ho);exact hop j (by omega)
    ·exact k28_
    ·exact k7_
    ·exact k8_
    ·exact k8_
  ·by_cases ho:x.op=5
   ·exact d18_
   ·repeat' (first|refine Ctl.h ?_ |((with_reducible intro hif);first |(focus (cases hif;done)) |((try simp only[JH]at hif);try exact hy_)) |((with_reducible first|apply J22 xk_ za_|apply J23 fol xk_ za_|apply J24);(·rfl);(· exact k31_);(try kernel_rfl);try exact z9_)|fail)
    refine At.next 5 ?_ ?_ ?_ rfl ?_ ?_ rfl
    ·refine⟨⟨by omega,fun j h1=>?_⟩,by omega⟩;by_cases e:j=4;(subst e;exact ho);exact hop j (by omega)
    ·exact k28_
    ·exact k7_
    ·exact k8_
    ·exact k8_
  ·by_cases ho:x.op=6
   ·exact d18_
   ·repeat' (first|refine Ctl.h ?_ |((with_reducible intro hif);first |(focus (cases hif;done)) |((try simp only[JH]at hif);try exact hy_)) |((with_reducible first|apply J22 xk_ za_|apply J23 fol xk_ za_|apply J24);(·rfl);(· exact k31_);(try kernel_rfl);try exact z9_)|fail)
    refine At.next 6 ?_ ?_ ?_ rfl ?_ ?_ rfl
    ·refine⟨⟨by omega,fun j h1=>?_⟩,by omega⟩;by_cases e:j=5;(subst e;exact ho);exact hop j (by omega)
    ·exact k28_
    ·exact k7_
    ·exact k8_
    ·exact k8_
  ·by_cases ho:x.op=7
   ·exact d18_
   ·repeat' (first|refine Ctl.h ?_ |((with_reducible intro hif);first |(focus (cases hif;done)) |((try simp only[JH]at hif);try exact hy_)) |((with_reducible first|apply J22 xk_ za_|apply J23 fol xk_ za_|apply J24);(·rfl);(· exact k31_);(try kernel_rfl);try exact z9_)|fail)
    refine At.next 7 ?_ ?_ ?_ rfl ?_ ?_ rfl
    ·refine⟨⟨by omega,fun j h1=>?_⟩,by omega⟩;by_cases e:j=6;(subst e;exact ho);exact hop j (by omega)
    ·exact k28_
    ·exact k7_
    ·exact k8_
    ·exact k8_
  ·by_cases ho:x.op=8
   ·repeat' (first|refine Ctl.h ?_ |((with_reducible intro hif);first |(focus (cases hif;done)) |((try simp only[JH]at hif);try exact hy_)) |((with_reducible first|apply J22 xk_ za_|apply J23 fol xk_ za_|apply J24);(·rfl);(· exact k31_);(try kernel_rfl);try exact z9_)|fail)
    apply At.endsPick [0,1,2,3,5] za_ (fn:=Try.f116) (rs:=[.tmp 2]) Anc.refl hro (lb_ rfl) rfl
    ·exact k5_
    ·exact yq_
    ·rfl
    ·rfl
    ·rfl
    ·exact k29_
    ·rfl
    ·exact k8_
    ·exact k9_
    ·exact fun β=>rfl
    ·exact k8_
   ·repeat' (first|refine Ctl.h ?_ |((with_reducible intro hif);first |(focus (cases hif;done)) |((try simp only[JH]at hif);try exact hy_)) |((with_reducible first|apply J22 xk_ za_|apply J23 fol xk_ za_|apply J24);(·rfl);(· exact k31_);(try kernel_rfl);try exact z9_)|fail)
    refine At.next 8 ?_ ?_ ?_ rfl ?_ ?_ rfl
    ·refine⟨⟨by omega,fun j h1=>?_⟩,by omega⟩;by_cases e:j=7;(subst e;exact ho);exact hop j (by omega)
    ·exact k28_
    ·exact k7_
    ·exact k8_
    ·exact k8_
  ·by_cases ho:x.op=9
   ·exact d18_
   ·repeat' (first|refine Ctl.h ?_ |((with_reducible intro hif);first |(focus (cases hif;done)) |((try simp only[JH]at hif);try exact hy_)) |((with_reducible first|apply J22 xk_ za_|apply J23 fol xk_ za_|apply J24);(·rfl);(· exact k31_);(try kernel_rfl);try exact z9_)|fail)
    refine At.next 9 ?_ ?_ ?_ rfl ?_ ?_ rfl
    ·refine⟨⟨by omega,fun j h1=>?_⟩,by omega⟩;by_cases e:j=8;(subst e;exact ho);exact hop j (by omega)
    ·exact k28_
    ·exact k7_
    ·exact k8_
    ·exact k8_
  ·by_cases ho:x.op=10
   ·exact d18_
   ·repeat' (first|refine Ctl.h ?_ |((with_reducible intro hif);first |(focus (cases hif;done)) |((try simp only[JH]at hif);try exact hy_)) |((with_reducible first|apply J22 xk_ za_|apply J23 fol xk_ za_|apply J24);(·rfl);(· exact k31_);(try kernel_rfl);try exact z9_)|fail)
    refine At.next 10 ?_ ?_ ?_ rfl ?_ ?_ rfl
    ·refine⟨⟨by omega,fun j h1=>?_⟩,by omega⟩;by_cases e:j=9;(subst e;exact ho);exact hop j (by omega)
    ·exact k28_
    ·exact k7_
    ·exact k8_
    ·exact k8_
  ·by_cases ho:x.op=11
   ·exact d18_
   ·repeat' (first|refine Ctl.h ?_ |((with_reducible intro hif);first |(focus (cases hif;done)) |((try simp only[JH]at hif);try exact hy_)) |((with_reducible first|apply J22 xk_ za_|apply J23 fol xk_ za_|apply J24);(·rfl);(· exact k31_);(try kernel_rfl);try exact z9_)|fail)
    refine At.next 11 ?_ ?_ ?_ rfl ?_ ?_ rfl
    ·refine⟨⟨by omega,fun j h1=>?_⟩,by omega⟩;by_cases e:j=10;(subst e;exact ho);exact hop j (by omega)
    ·exact k28_
    ·exact k7_
    ·exact k8_
    ·exact k8_
  ·have h11:∀j:Nat,j < 11→x.op≠(j:Int)+1:=hop
   have hw:32 < x.op:=by
    have q0:=h11 0 (by omega)
    have q1:=h11 1 (by omega)
    have q2:=h11 2 (by omega)
    have q3:=h11 3 (by omega)
    have q4:=h11 4 (by omega)
    have q5:=h11 5 (by omega)
    have q6:=h11 6 (by omega)
    have q7:=h11 7 (by omega)
    have q8:=h11 8 (by omega)
    have q9:=h11 9 (by omega)
    have q10:=h11 10 (by omega)
    omega
   repeat' (first|refine Ctl.h ?_ |((with_reducible intro hif);first |(focus (cases hif;done)) |((try simp only[JH]at hif);try exact hy_)) |((with_reducible first|apply J22 xk_ za_|apply J23 fol xk_ za_|apply J24);(·rfl);(· exact k30_);(try kernel_rfl);try exact z9_)|fail)
   apply At.endsPick [0,1,2,3,3] za_ (fn:=Try.f116) (rs:=[.tmp 2]) Anc.refl hro (lb_ rfl) rfl
   ·exact k5_
   ·exact yq_
   ·rfl
   ·rfl
   ·rfl
   ·exact k29_
   ·rfl
   ·exact k8_
   ·exact k9_
   ·exact fun β=>rfl
   ·exact k8_
 ·cases hF
end Go.Proofs.Ytjliakjbdcplcaa.Vm
end
section
namespace Go.Proofs.Ytjliakjbdcplcaa.Vm
open Go.RowKit
def Bun1 (ρ : Nat→Nat)(c:HB):HB→Prop
 | .own t u ex=>Less c (.own t (u.ren ρ) ex)
 | .raw _=>False
 | b=>Fit ρ b c
def BunL (ρ : Nat→Nat)(h:HM):List HB→List Nat→Prop
 | [],_=>True
 | b::L,n=>match n with
  | j::n=>Bun1 ρ (h j) b∧BunL ρ h L n
  | []=>False
theorem bunL_get {ρ : Nat→Nat}{h:HM}:∀{L:List HB} {l:List Nat},BunL ρ h L l→∀i,i < L.length→Bun1 ρ (h (l.getD i 0)) (hp L i)
 | [],l,_,i,hi=>by simp at hi
 | b::L,[],hf,_,_=>by exact hf.elim
 | b::L,j::l,hf,0,_=>hf.1
 | b::L,j::l,hf,i+1,hi=>by
  have:=bunL_get hf.2 i (by simpa using hi)
  unfold hp at this ⊢
  simpa using this
theorem fitL_of {ρ : Nat→Nat}{h:HM}:∀{L:List HB} {l:List Nat},l.length=L.length→(∀i,i < L.length→Fit ρ (hp L i) (h (l.getD i 0)))→FitL ρ h L l
 | [],l,_,_=>trivial
 | b::L,[],hl,_=>by simp at hl
 | b::L,j::l,hl,hf=>by
  refine⟨?_,fitL_of (by simpa using hl) fun i hi=>?_⟩
  ·have:=hf 0 (by simp)
   rwa [hp_zero]at this
  ·have:=hf (i+1) (by simpa using hi)
   rw[hp_cons]at this
   simpa using this
def ym_:List Nat→Bool
 | []=>true
 | j::l=>!memN j l && ym_ l
theorem nodupN_spec:∀{l:List Nat},ym_ l=true→∀i j,i < j→j < l.length→l.getD i 0≠l.getD j 0
 | [],_,i,j,_,hj=>by simp at hj
 | k::l,h,i,j,hij,hj=>by
  simp only[ym_,Bool.and_eq_true,Bool.not_eq_true']at h
  obtain⟨j,rfl⟩:∃j',j=j'+1:=⟨j - 1,by omega⟩
  rw[List.getD_cons_succ]
  have hj':j < l.length:=by simpa using hj
  cases i with
  | zero=>
   rw[List.getD_cons_zero]
   intro e
   have:k∈l:=by
    rw[e,List.getD_eq_getElem?_getD,List.getElem?_eq_getElem hj']
    exact List.getElem_mem hj'
   rw[memN_iff.2 this]at h
   cases h.1
  | succ i=>
   rw[List.getD_cons_succ]
   exact nodupN_spec h.2 i j (by omega) hj'
theorem nodupN_ne {l:List Nat}(h:ym_ l=true){i j:Nat}(hi:i < l.length)(hj:j < l.length)(hne:i≠j):l.getD i 0≠l.getD j 0:=by
 rcases Nat.lt_or_gt_of_ne hne with h'|h'
 ·exact nodupN_spec h i j h' hj
 ·exact(nodupN_spec h j i h' hi).symm
theorem less_is_born {b c:HB}(h:Less b c)(hc:c.born=true):b.born=true:=by
 cases h with
 | same=>exact hc
 | dead=>cases hc
 | gone h=>exact h
 | arr=>rfl
 | loose=>rfl
 | val=>rfl
theorem bun1_born {ρ : Nat→Nat}{c b:HB}(h:Bun1 ρ c b):c.born=true:=by
 cases b with
 | own t u ex=>exact less_is_born h rfl
 | ro u=>exact Fit.born (ρ:=ρ) (b:=.ro u) h
 | gone=>exact Fit.born (ρ:=ρ) (b:=.gone) h
 | raw o=>exact h.elim
 | dead=>exact Fit.born (ρ:=ρ) (b:=.dead) h
theorem bun_ok {f:FuncId}{args0 args:List SV}{L0 L1:List HB}{v val:SV}{w0 w:World}{M:Nat→Prop}{β : Env}{h h':HM}{m:Nat}{wr:List (Nat×HB)}(l:List Nat)(H:yc_ Try.prog f args0 L0 v L1)(R:Rep w0 M β h' w)
  (hlen:l.length=L0.length) (hpos:0 < L0.length) (h00:l.getD 0 0=0) (hz:hp L0 0=.gone) (hnd:ym_ l=true) (hB:BunL (y6_ l m) h' L0 l)
  (hm:∀i,m≤i→h i=.dead) (hwr:∀p∈newB (y6_ l m) m (L1.drop L0.length),h' p.1=h p.1) (hle:L0.length≤L1.length) (hno:noRo2 L0 L1=true)
  (hst0:yk_ (hp L0) L0) (hsta:zd_ (hp L0) args0) (hst1:yk_ (hp (mrgL L0 L1)) (mrgL L0 L1)) (hv:Stable (hp (mrgL L0 L1)) v)
  (hargs:renL (y6_ l m) args0=args) (hval:v.ren (y6_ l m)=val) (hw:oldB (y6_ l m) L0 L1 l++newB (y6_ l m) m (L1.drop L0.length)=wr) :
  Calls Try.prog f (denL β args).toArray w fun e w'=>∃β',(∀i,(h' i).born=true→β i = β' i)∧Rep w0 M β' (wrs h' wr) w'∧Stable (wrs h' wr) val∧e=.returned (val.den β'):=by
 have hne:∀i j,i < L0.length→j < L0.length→i≠j→l.getD i 0≠l.getD j 0:=fun i j hi hj hn=>nodupN_ne hnd (by omega) (by omega) hn
 have hbun:=bunL_get hB
 obtain⟨H1,hH1⟩:∃H1,H1=wrs h' (oldB (y6_ l m) L0 L0 l):=⟨_,rfl⟩
 have him:∀i,i < L0.length→(hp L0 i).mine=true→H1 (l.getD i 0)=(hp L0 i).ren (y6_ l m):=fun i hi hmi=>by
  rw[hH1]
  exact wrs_oldB (Nat.le_refl _) hlen (fun a b hab hb _ _=>hne a b (by omega) hb (by omega)) i hi hmi
 have hneq:∀j,(∀i,i < L0.length→(hp L0 i).mine=true→l.getD i 0≠j)→H1 j=h' j:=fun j hj=>by
  rw[hH1];exact wrs_oldB_ne hj
 have hrl:∀i,i < L0.length→y6_ l m i=l.getD i 0:=fun i hi=>if_pos (by omega)
 have less1:∀i,Less (h' i) (H1 i):=fun j=>by
  by_cases hc:∃i,i < L0.length∧(hp L0 i).mine=true∧l.getD i 0=j
  ·obtain⟨i,hi,hmi,rfl⟩:=hc
   rw[him i hi hmi]
   have:=hbun i hi
   cases hh:hp L0 i<;>rw[hh]at hmi this<;>first |(cases hmi;done)|exact this.elim|exact this
  ·rw[hneq j fun i hi hmi e=>hc ⟨i,hi,hmi,e⟩];exact .same _
 have born1:∀i,(h' i).born=true→(H1 i).born=true:=fun j hj=>by
  by_cases hc:∃i,i < L0.length∧(hp L0 i).mine=true∧l.getD i 0=j
  ·obtain⟨i,hi,hmi,rfl⟩:=hc
   rw[him i hi hmi]
   cases hh:hp L0 i<;>rw[hh]at hmi<;>first |(cases hmi;done)|rfl
  ·rw[hneq j fun i hi hmi e=>hc ⟨i,hi,hmi,e⟩];exact hj
 have bornL:∀i,(hp L0 i).born=true→(H1 (y6_ l m i)).born=true:=fun i hi=>by
  have hlt:i < L0.length:=by
   rcases Nat.lt_or_ge i L0.length with h'|h'
   ·exact h'
   ·rw[xc_ h']at hi;cases hi
  rw[hrl i hlt]
  exact born1 _ (bun1_born (hbun i hlt))
 have H0:H1 0=.gone:=by
  rw[hneq 0 fun i hi hmi e=>?_]
  ·exact R.nil0
  ·have:i=0:=by
    by_cases hi0:i=0
    ·exact hi0
    ·exact absurd (e.trans h00.symm) (hne i 0 hi hpos hi0)
   subst this
   rw[hz]at hmi;cases hmi
 have R1:Rep w0 M β H1 w:=R.less less1 H0 fun j=>by
  by_cases hc:∃i,i < L0.length∧(hp L0 i).mine=true∧l.getD i 0=j
  ·obtain⟨i,hi,hmi,rfl⟩:=hc
   rw[him i hi hmi]
   have hs:=xr_ hst0 i
   have hb:=hbun i hi
   cases hh:hp L0 i<;>rw[hh]at hmi hs hb<;>first |(cases hmi;done)|exact Stable.ren bornL hs|exact hb.elim
  ·rw[hneq j fun i hi hmi e=>hc ⟨i,hi,hmi,e⟩]
   exact HB.stable_more (R.st j) born1
 have hfit:FitL (y6_ l m) H1 L0 l:=fitL_of hlen fun i hi=>by
  cases hh:hp L0 i with
  | own t u ex=>
   rw[him i hi (by rw[hh];rfl),hh]
   exact .own
  | raw o=>exact(by have hb:=hbun i hi;rw[hh]at hb;exact hb.elim)
  | _=>
   have hb:=hbun i hi
   rw [hneq (l.getD i 0) fun k hk hmk e=>by
    by_cases hki:k=i
    ·subst hki;rw[hh]at hmk;cases hmk
    ·exact hne k i hk hi hki e]
   rw[hh]at hb
   exact hb
 have hnew:∀p∈newB (y6_ l m) m (L1.drop L0.length),H1 p.1=h p.1:=fun p hp=>by
  have hge:m≤p.1:=by
   have:∀(L:List HB) (k:Nat),m≤k→p∈newB (y6_ l m) k L→m≤p.1:=by
    intro L
    induction L with
    | nil=>intro k hk hp;cases hp
    | cons b L ih=>
     intro k hk hp
     cases hp with
     | head=>exact hk
     | tail _ hp=>exact ih (k+1) (by omega) hp
   exact this _ m (Nat.le_refl _) hp
  rw[hneq p.1 fun i hi hmi e=>?_]
  ·exact hwr p hp
  ·have hb:=bun1_born (hbun i hi)
   rw[e,hwr p hp,hm _ hge]at hb
   cases hb
 have C:=callRW (h:=h) (m:=m) l H R1 hlen hpos h00 hz hfit (fun i j hi hj hn _ _=>hne i j hi hj hn) hm hnew hle hno hst0 hsta hst1 hv
 rw[hargs,hval,hw]at C
 have hww:wrs H1 wr=wrs h' wr:=by
  rw[←hw,wrs_app,wrs_app]
  congr 1
  funext j
  by_cases hc:∃i,i < L0.length∧(hp L0 i).mine=true∧l.getD i 0=j
  ·obtain⟨i,hi,hmi,rfl⟩:=hc
   rw[wrs_oldB hle hlen (fun a b hab hb _ _=>hne a b (by omega) hb (by omega)) i hi hmi,wrs_oldB hle hlen (fun a b hab hb _ _=>hne a b (by omega) hb (by omega)) i hi hmi]
  ·rw[wrs_oldB_ne fun i hi hmi e=>hc ⟨i,hi,hmi,e⟩,wrs_oldB_ne fun i hi hmi e=>hc ⟨i,hi,hmi,e⟩]
   exact hneq j fun i hi hmi e=>hc ⟨i,hi,hmi,e⟩
 rw[hww]at C
 exact C.mono fun e w' ⟨β',g1,g2,g3,g4⟩=>⟨β',fun i hi=>g1 i (born1 i hi),g2,g3,g4⟩
structure PG (P:List Ins):Prop where
 ok:∀x∈P,x.ok
 chk:(y8_ P).2=0
structure SG (P:List Ins) (s:Sta):Prop where
 a0:0≤s.at_
 a1:s.at_ < P.length
 d0:0≤s.draws
 d1:s.draws≤1099511627776
 c1:s.cells.length≤1024
 n1:s.sends.length≤1000000
theorem PG.len {P:List Ins}(h:PG P):P.length≤256:=(right_last' h.chk).2.1
theorem PG.len0 {P:List Ins}(h:PG P):0 < P.length:=(right_last' h.chk).1
theorem SG.sok {P:List Ins}{s:Sta}(h:SG P s)(hP:PG P):SOk s:=⟨h.a0,by have:=h.a1;have:=hP.len;omega,h.d0,h.d1,h.c1,h.n1⟩
theorem SG.ri {P:List Ins}{s:Sta}(h:SG P s)(hP:PG P):RI (insAt P s.at_):=ri_at hP.ok hP.chk (by have:=h.a0;have:=h.a1;omega)
theorem SG.of {P:List Ins}{s:Sta}(h:s.rightB P.length=true)(hn:s.sends.length≤1000000):SG P s:=by
 have:=of_decide_eq_true (show decide _=true from h)
 exact⟨by omega,by omega,by omega,by omega,by omega,hn⟩
theorem doS_good {P:List Ins}{s:Sta}{v:Evi}(h:SG P s)(hP:PG P):SG P (doS s v (insAt P s.at_)):=by
 by_cases he:doE s v (insAt P s.at_)≠0
 ·rw[doS_bad he];exact h
 ·have hR:=right_at hP.ok hP.chk (k:=s.at_.toNat) (by have:=h.a0;have:=h.a1;omega)
  have hx:P.getD s.at_.toNat ⟨0,0,0,0,0⟩=insAt P s.at_:=rfl
  rw[hx]at hR
  generalize insAt P s.at_=x at *
  obtain⟨a0,a1,d0,d1,c1,n1⟩:=h
  have hg:=goesB_of hR.one
  have ht:=targB_of hR.one
  have hgo:x.op≠1→x.op≠2→x.op≠9→s.at_+1 < P.length:=fun h1 h2 h9=>by
   have:=hR.goes (by rw[hg];simp[h1,h2,h9])
   omega
  have hta:(x.op=9∨x.op=10∨x.op=11)→0≤x.n∧x.n < P.length:=fun hj=>by
   have hb:xj_ x=true:=by rw[ht];rcases hj with e|e|e<;>simp[e]
   have:=hR.targ hb
   unfold y7_ at this
   rwa [if_pos hb]at this
  have h2:x.op≠2:=fun e=>he (by simp[doE,e])
  have hE:doE s v x=0:=by omega
  have hP:∀k y,s.at_+1 < P.length→SG P (s.put k y):=fun k y h=>⟨by show 0≤s.at_+1;omega,h,d0,d1,c1,n1⟩
  rcases hR.cls with q|q|q|q|q|q|q|q|q|q|q|q
  ·rw[show doS s v x={ s with ended:=true } by simp[doS,hE,q]];exact⟨a0,a1,d0,d1,c1,n1⟩
  ·exact absurd q h2
  ·rw[show doS s v x=s.put x.a.toNat x.n by simp[doS,hE,q]];exact hP _ _ (hgo (by omega) h2 (by omega))
  ·rw[show doS s v x=s.put x.a.toNat (s.regs x.b.toNat) by simp[doS,hE,q]];exact hP _ _ (hgo (by omega) h2 (by omega))
  ·rw[show doS s v x=s.put x.a.toNat (s.cells.getD (s.regs x.b.toNat).toNat 0) by simp[doS,hE,q]];exact hP _ _ (hgo (by omega) h2 (by omega))
  ·rw[show doS s v x={ s with cells:=s.cells.set (s.regs x.b.toNat).toNat (s.regs x.a.toNat),at_:=s.at_+1 } by simp[doS,hE,q]]
   exact⟨by show 0≤s.at_+1;omega,hgo (by omega) h2 (by omega),d0,d1,by simpa using c1,n1⟩
  ·rw[show doS s v x={ s.put x.a.toNat (drawI v.seed v.process s.draws (s.regs x.b.toNat))with draws:=s.draws+1 } by simp[doS,hE,q]]
   have hd:s.draws≠1099511627776:=fun e=>by
    have h3:doE s v x=if s.regs x.b.toNat < 1 then 186 else if s.draws=1099511627776 then 187 else 0:=by simp[doE,q]
    rw[hE,if_pos e]at h3
    split at h3<;>omega
   exact⟨by show 0≤s.at_+1;omega,hgo (by omega) h2 (by omega),by show 0≤s.draws+1;omega,by show s.draws+1≤_;omega,c1,n1⟩
  ·rw[show doS s v x={ s with at_:=s.at_+1,sends:=s.sends++[⟨x.n,s.regs x.a.toNat,s.regs x.b.toNat⟩] } by simp[doS,hE,q]]
   have hs:s.sends.length < 256:=by
    rcases Nat.lt_or_ge s.sends.length 256 with h'|h'
    ·exact h'
    ·exfalso
     have h3:doE s v x=sendE s v x:=by simp[doE,q]
     unfold sendE at h3
     rw[hE,if_pos h']at h3
     split at h3
     ·omega
     ·split at h3
      ·omega
      ·split at h3<;>omega
   exact⟨by show 0≤s.at_+1;omega,hgo (by omega) h2 (by omega),d0,d1,c1,by simp;omega⟩
  ·rw[show doS s v x={ s with at_:=x.n } by simp[doS,hE,q]]
   have:=hta (.inl q);exact⟨this.1,this.2,d0,d1,c1,n1⟩
  ·rw[show doS s v x={ s with at_:=if s.regs x.a.toNat=0 then x.n else s.at_+1 } by simp[doS,hE,q]]
   have h3:=hta (.inr (.inl q))
   have h4:=hgo (by omega) h2 (by omega)
   refine⟨?_,?_,d0,d1,c1,n1⟩<;>dsimp only<;>split<;>omega
  ·rw[show doS s v x={ s with at_:=if s.regs x.a.toNat < 0 then x.n else s.at_+1 } by simp[doS,hE,q]]
   have h3:=hta (.inr (.inr q))
   have h4:=hgo (by omega) h2 (by omega)
   refine⟨?_,?_,d0,d1,c1,n1⟩<;>dsimp only<;>split<;>omega
  ·rw [show doS s v x=s.put x.a.toNat (applyV (x.op - 32) (s.regs x.b.toNat) (s.regs x.c.toNat)) by
    unfold doS
    rw[hE]
    simp[show ¬x.op=1 by omega,show ¬x.op=3 by omega,show ¬x.op=4 by omega,show ¬x.op=5 by omega,show ¬x.op=6 by omega,show ¬x.op=7 by omega,show ¬x.op=8 by omega,show ¬x.op=9 by omega,show ¬x.op=10 by omega,show ¬x.op=11 by omega]]
   exact hP _ _ (hgo (by omega) h2 (by omega))
theorem stepS_good {P:List Ins}{s:Sta}{v:Evi}(h:SG P s)(hP:PG P):SG P (stepS P v s):=by
 unfold stepS
 split
 ·exact h
 ·exact doS_good h hP
end Go.Proofs.Ytjliakjbdcplcaa.Vm
end

import Derived.Test.YtjliakjbdcplcaaGreatQ1
import Derived.Test.YtjliakjbdcplcaaGreatQ9
import Derived.Test.YtjliakjbdcplcaaGreatQ18
import Derived.Test.YtjliakjbdcplcaaGreatQ19
set_option linter.unusedSimpArgs false
set_option linter.unusedVariables false
set_option maxRecDepth 100000
set_option maxHeartbeats 4000000
section
namespace Go.Proofs.YtjliakjbdcplcaaGreat.Vm
open Go.RowKit
attribute [local push_cast] prS zo_ zp_ xt_ y8_ y7_ y6_ y5_ y4_ xs_ y3_ y2_ y1_ zn_ z2_ z4_ z1_ zu_ zt_ iOf JM mS macP kF wF JE inR inN
def cD:FuncId→Option yn_:=y9_ [(162,mS (kF 1 false)),(163,mS (kF 2 false)),(164,mS (kF 3 false)),(165,mS (kF 4 false)),(166,mS (kF 5 false)),(167,mS (kF 6 false)),(168,mS (kF 7 false)),(169,mS (kF 8 true)),(170,mS (kF 9 false)),(171,mS (kF 10 false)),(172,mS (kF 11 false)),(173,mS wF)]
theorem x5_:∀f S,cD f=some S→zi_ Tryz.prog f S:=zr_ ⟨m_halt,m_fail,m_set,m_move,m_load,m_store,m_draw,m_send,m_jump,m_jumpZero,m_jumpNeg,m_word,trivial⟩
def kindF:Nat→SV:=fun j=>(SV.ite (decide (j=10)) (.agg [.nat .u8 11,.fn 172 []]) (SV.ite (decide (j=9)) (.agg [.nat .u8 10,.fn 171 []]) (SV.ite (decide (j=8)) (.agg [.nat .u8 9,.fn 170 []]) (SV.ite (decide (j=7)) (.agg [.nat .u8 8,.fn 169 []]) (SV.ite (decide (j=6)) (.agg [.nat .u8 7,.fn 168 []]) (SV.ite (decide (j=5)) (.agg [.nat .u8 6,.fn 167 []]) (SV.ite (decide (j=4)) (.agg [.nat .u8 5,.fn 166 []]) (SV.ite (decide (j=3)) (.agg [.nat .u8 4,.fn 165 []]) (SV.ite (decide (j=2)) (.agg [.nat .u8 3,.fn 164 []]) (SV.ite (decide (j=1)) (.agg [.nat .u8 2,.fn 163 []]) (SV.ite (decide (j=0)) (.agg [.nat .u8 1,.fn 162 []]) (.agg [.nat .u8 0,.nilf]))))))))))))
theorem kindF_0:kindF 0=.agg [.nat .u8 1,.fn 162 []]:=rfl
theorem kindF_1:kindF 1=.agg [.nat .u8 2,.fn 163 []]:=rfl
theorem kindF_2:kindF 2=.agg [.nat .u8 3,.fn 164 []]:=rfl
theorem kindF_3:kindF 3=.agg [.nat .u8 4,.fn 165 []]:=rfl
theorem kindF_4:kindF 4=.agg [.nat .u8 5,.fn 166 []]:=rfl
theorem kindF_5:kindF 5=.agg [.nat .u8 6,.fn 167 []]:=rfl
theorem kindF_6:kindF 6=.agg [.nat .u8 7,.fn 168 []]:=rfl
theorem kindF_7:kindF 7=.agg [.nat .u8 8,.fn 169 []]:=rfl
theorem kindF_8:kindF 8=.agg [.nat .u8 9,.fn 170 []]:=rfl
theorem kindF_9:kindF 9=.agg [.nat .u8 10,.fn 171 []]:=rfl
theorem kindF_10:kindF 10=.agg [.nat .u8 11,.fn 172 []]:=rfl
def doF:MF:=fun ar s v x=>match ar with
 | []=>some (RI x∧VOk v∧SOk s,fun _=>.int .i64 (doE s v x),doS s v x,x,true)
 | _=>none
theorem m_do:zi_ Tryz.prog 157 (mS doF):=mS_ok (by kernel_rfl) fun ar s v x cond val s' x' mv hF hc=>by
 unfold doF at hF
 split at hF
 ·cases hF
  obtain⟨R,V,S⟩:=hc
  obtain⟨o0,o1,_,_,_,_,_,_,_,_⟩:=R.ok
  have hcls:=R.cls
  refine⟨fun _=>rfl,fun _=>trivial,fun _ _=>rfl,fun _ _ _=>trivial,?_⟩
  refine zf_ (fn:=Tryz.f157) 4 35 0 rfl rfl rfl rfl rfl u12_ rfl fun w0 M E hro=>?_
  repeat' (first|refine Ctl.h ?_ |((with_reducible intro hif);first |(focus (cases hif;done)) |((try simp only[JH]at hif);try exact hy_)) |((with_reducible first|apply J22 x5_ za_|apply J23 fol x5_ za_|apply J24);(·rfl);(· exact k94_);(try kernel_rfl);try exact yr_)|fail)
  refine WF.loopAt (fun k=>k≤11∧∀j:Nat,j < k→x.op≠(j:Int)+1) (fun k=>[(0,.ptr 1 []),(16,.arr 11 2 kindF),(17,.nat .i64 k)]) (fun k=>[.gone,mB s v x 2 3,cB s,sB s]) (fun k=>11 - k) 0 ⟨by omega,fun j h1=>by omega⟩ ?_ ?_ rfl ?_ ?_ rfl ?_
  ·exact we_
  ·exact k7_
  ·exact xg_
  ·exact xg_
  rintro k ⟨hk,hop⟩
  have hk12:k=0∨k=1∨k=2∨k=3∨k=4∨k=5∨k=6∨k=7∨k=8∨k=9∨k=10∨k=11:=by omega
  rcases hk12 with rfl|rfl|rfl|rfl|rfl|rfl|rfl|rfl|rfl|rfl|rfl|rfl
  ·by_cases ho:x.op=1
   ·exact d40_
   ·repeat' (first|refine Ctl.h ?_ |((with_reducible intro hif);first |(focus (cases hif;done)) |((try simp only[JH]at hif);try exact hy_)) |((with_reducible first|apply J22 x5_ za_|apply J23 fol x5_ za_|apply J24);(·rfl);(· exact k95_);(try kernel_rfl);try exact yr_)|fail)
    refine At.next 1 ?_ ?_ ?_ rfl ?_ ?_ rfl
    ·refine⟨⟨by omega,fun j h1=>?_⟩,by omega⟩;by_cases e:j=0;(subst e;exact ho);exact hop j (by omega)
    ·exact we_
    ·exact k7_
    ·exact xg_
    ·exact xg_
  ·by_cases ho:x.op=2
   ·exact d40_
   ·repeat' (first|refine Ctl.h ?_ |((with_reducible intro hif);first |(focus (cases hif;done)) |((try simp only[JH]at hif);try exact hy_)) |((with_reducible first|apply J22 x5_ za_|apply J23 fol x5_ za_|apply J24);(·rfl);(· exact k95_);(try kernel_rfl);try exact yr_)|fail)
    refine At.next 2 ?_ ?_ ?_ rfl ?_ ?_ rfl
    ·refine⟨⟨by omega,fun j h1=>?_⟩,by omega⟩;by_cases e:j=1;(subst e;exact ho);exact hop j (by omega)
    ·exact we_
    ·exact k7_
    ·exact xg_
    ·exact xg_
  ·by_cases ho:x.op=3
   ·exact d40_
   ·repeat' (first|refine Ctl.h ?_ |((with_reducible intro hif);first |(focus (cases hif;done)) |((try simp only[JH]at hif);try exact hy_)) |((with_reducible first|apply J22 x5_ za_|apply J23 fol x5_ za_|apply J24);(·rfl);(· exact k95_);(try kernel_rfl);try exact yr_)|fail)
    refine At.next 3 ?_ ?_ ?_ rfl ?_ ?_ rfl
    ·refine⟨⟨by omega,fun j h1=>?_⟩,by omega⟩;by_cases e:j=2;(subst e;exact ho);exact hop j (by omega)
    ·exact we_
    ·exact k7_
    ·exact xg_
    ·exact xg_
  ·by_cases ho:x.op=4
   ·exact d40_
   ·repeat' (first|refine Ctl.h ?_ |((with_reducible intro hif);first |(focus (cases hif;done)) |((try simp only[JH]at hif);try exact hy_)) |((with_reducible first|apply J22 x5_ za_|apply J23 fol x5_ za_|apply J24);(·rfl);(· exact k95_);(try kernel_rfl);try exact yr_)|fail)
    refine At.next 4 ?_ ?_ ?_ rfl ?_ ?_ rfl
    ·refine⟨⟨by omega,fun j h1=>?_⟩,by omega⟩;by_cases e:j=3;(subst e;exact ho);exact hop j (by omega)
    ·exact we_
    ·exact k7_
    ·exact xg_
    ·exact xg_
  ·by_cases ho:x.op=5
   ·exact d40_
   ·repeat' (first|refine Ctl.h ?_ |((with_reducible intro hif);first |(focus (cases hif;done)) |((try simp only[JH]at hif);try exact hy_)) |((with_reducible first|apply J22 x5_ za_|apply J23 fol x5_ za_|apply J24);(·rfl);(· exact k95_);(try kernel_rfl);try exact yr_)|fail)
    refine At.next 5 ?_ ?_ ?_ rfl ?_ ?_ rfl
    ·refine⟨⟨by omega,fun j h1=>?_⟩,by omega⟩;by_cases e:j=4;(subst e;exact ho);exact hop j (by omega)
    ·exact we_
    ·exact k7_
    ·exact xg_
    ·exact xg_
  ·by_cases ho:x.op=6
   ·exact d40_
   ·repeat' (first|refine Ctl.h ?_ |((with_reducible intro hif);first |(focus (cases hif;done)) |((try simp only[JH]at hif);try exact hy_)) |((with_reducible first|apply J22 x5_ za_|apply J23 fol x5_ za_|apply J24);(·rfl);(· exact k95_);(try kernel_rfl);try exact yr_)|fail)
    refine At.next 6 ?_ ?_ ?_ rfl ?_ ?_ rfl
    ·refine⟨⟨by omega,fun j h1=>?_⟩,by omega⟩;by_cases e:j=5;(subst e;exact ho);exact hop j (by omega)
    ·exact we_
    ·exact k7_
    ·exact xg_
    ·exact xg_
  ·by_cases ho:x.op=7
   ·exact d40_
   ·repeat' (first|refine Ctl.h ?_ |((with_reducible intro hif);first |(focus (cases hif;done)) |((try simp only[JH]at hif);try exact hy_)) |((with_reducible first|apply J22 x5_ za_|apply J23 fol x5_ za_|apply J24);(·rfl);(· exact k95_);(try kernel_rfl);try exact yr_)|fail)
    refine At.next 7 ?_ ?_ ?_ rfl ?_ ?_ rfl
    ·refine⟨⟨by omega,fun j h1=>?_⟩,by omega⟩;by_cases e:j=6;(subst e;exact ho);exact hop j (by omega)
    ·exact we_
    ·exact k7_
    ·exact xg_
    ·exact xg_
  ·by_cases ho:x.op=8
   ·repeat' (first|refine Ctl.h ?_ |((with_reducible intro hif);first |(focus (cases hif;done)) |((try simp only[JH]at hif);try exact hy_)) |((with_reducible first|apply J22 x5_ za_|apply J23 fol x5_ za_|apply J24);(·rfl);(· exact k95_);(try kernel_rfl);try exact yr_)|fail)
    apply At.endsPick [0,1,2,3,5] za_ (fn:=Tryz.f157) (rs:=[.tmp 2]) Anc.refl hro (lb_ rfl) rfl
    ·exact yl_
    ·exact xz_
    ·rfl
    ·rfl
    ·rfl
    ·exact k93_
    ·rfl
    ·exact xg_
    ·exact k9_
    ·exact fun β=>rfl
    ·exact xg_
   ·repeat' (first|refine Ctl.h ?_ |((with_reducible intro hif);first |(focus (cases hif;done)) |((try simp only[JH]at hif);try exact hy_)) |((with_reducible first|apply J22 x5_ za_|apply J23 fol x5_ za_|apply J24);(·rfl);(· exact k95_);(try kernel_rfl);try exact yr_)|fail)
    refine At.next 8 ?_ ?_ ?_ rfl ?_ ?_ rfl
    ·refine⟨⟨by omega,fun j h1=>?_⟩,by omega⟩;by_cases e:j=7;(subst e;exact ho);exact hop j (by omega)
    ·exact we_
    ·exact k7_
    ·exact xg_
    ·exact xg_
  ·by_cases ho:x.op=9
   ·exact d40_
   ·repeat' (first|refine Ctl.h ?_ |((with_reducible intro hif);first |(focus (cases hif;done)) |((try simp only[JH]at hif);try exact hy_)) |((with_reducible first|apply J22 x5_ za_|apply J23 fol x5_ za_|apply J24);(·rfl);(· exact k95_);(try kernel_rfl);try exact yr_)|fail)
    refine At.next 9 ?_ ?_ ?_ rfl ?_ ?_ rfl
    ·refine⟨⟨by omega,fun j h1=>?_⟩,by omega⟩;by_cases e:j=8;(subst e;exact ho);exact hop j (by omega)
    ·exact we_
    ·exact k7_
    ·exact xg_
    ·exact xg_
  ·by_cases ho:x.op=10
   ·exact d40_
   ·repeat' (first|refine Ctl.h ?_ |((with_reducible intro hif);first |(focus (cases hif;done)) |((try simp only[JH]at hif);try exact hy_)) |((with_reducible first|apply J22 x5_ za_|apply J23 fol x5_ za_|apply J24);(·rfl);(· exact k95_);(try kernel_rfl);try exact yr_)|fail)
    refine At.next 10 ?_ ?_ ?_ rfl ?_ ?_ rfl
    ·refine⟨⟨by omega,fun j h1=>?_⟩,by omega⟩;by_cases e:j=9;(subst e;exact ho);exact hop j (by omega)
    ·exact we_
    ·exact k7_
    ·exact xg_
    ·exact xg_
  ·by_cases ho:x.op=11
   ·exact d40_
   ·repeat' (first|refine Ctl.h ?_ |((with_reducible intro hif);first |(focus (cases hif;done)) |((try simp only[JH]at hif);try exact hy_)) |((with_reducible first|apply J22 x5_ za_|apply J23 fol x5_ za_|apply J24);(·rfl);(· exact k95_);(try kernel_rfl);try exact yr_)|fail)
    refine At.next 11 ?_ ?_ ?_ rfl ?_ ?_ rfl
    ·refine⟨⟨by omega,fun j h1=>?_⟩,by omega⟩;by_cases e:j=10;(subst e;exact ho);exact hop j (by omega)
    ·exact we_
    ·exact k7_
    ·exact xg_
    ·exact xg_
  ·have h11:∀j:Nat,j < 11→x.op≠(j:Int)+1:=hop
   have hw:32 < x.op:=by
    have q0:=h11 0 (by omega)
    have q1:=h11 1 (by omega)
    have q2:=h11 2 (by omega)
    have q3:=h11 3 (by omega)
    have q4:=h11 4 (by omega)
    have q5:=h11 5 (by omega)
    have q6:=h11 6 (by omega)
    have q7:=h11 7 (by omega)
    have q8:=h11 8 (by omega)
    have q9:=h11 9 (by omega)
    have q10:=h11 10 (by omega)
    omega
   repeat' (first|refine Ctl.h ?_ |((with_reducible intro hif);first |(focus (cases hif;done)) |((try simp only[JH]at hif);try exact hy_)) |((with_reducible first|apply J22 x5_ za_|apply J23 fol x5_ za_|apply J24);(·rfl);(· exact k94_);(try kernel_rfl);try exact yr_)|fail)
   apply At.endsPick [0,1,2,3,3] za_ (fn:=Tryz.f157) (rs:=[.tmp 2]) Anc.refl hro (lb_ rfl) rfl
   ·exact yl_
   ·exact xz_
   ·rfl
   ·rfl
   ·rfl
   ·exact k93_
   ·rfl
   ·exact xg_
   ·exact k9_
   ·exact fun β=>rfl
   ·exact xg_
 ·cases hF
end Go.Proofs.YtjliakjbdcplcaaGreat.Vm
end
section
namespace Go.Proofs.YtjliakjbdcplcaaGreat.Vm
open Go.RowKit
def Bun1 (ρ : Nat→Nat)(c:HB):HB→Prop
 | .own t u ex=>Less c (.own t (u.ren ρ) ex)
 | .raw _=>False
 | b=>Fit ρ b c
def BunL (ρ : Nat→Nat)(h:HM):List HB→List Nat→Prop
 | [],_=>True
 | b::L,n=>match n with
  | j::n=>Bun1 ρ (h j) b∧BunL ρ h L n
  | []=>False
theorem bunL_get {ρ : Nat→Nat}{h:HM}:∀{L:List HB} {l:List Nat},BunL ρ h L l→∀i,i < L.length→Bun1 ρ (h (l.getD i 0)) (hp L i)
 | [],l,_,i,hi=>by simp at hi
 | b::L,[],hf,_,_=>by exact hf.elim
 | b::L,j::l,hf,0,_=>hf.1
 | b::L,j::l,hf,i+1,hi=>by
  have:=bunL_get hf.2 i (by simpa using hi)
  unfold hp at this ⊢
  simpa using this
theorem fitL_of {ρ : Nat→Nat}{h:HM}:∀{L:List HB} {l:List Nat},l.length=L.length→(∀i,i < L.length→Fit ρ (hp L i) (h (l.getD i 0)))→FitL ρ h L l
 | [],l,_,_=>trivial
 | b::L,[],hl,_=>by simp at hl
 | b::L,j::l,hl,hf=>by
  refine⟨?_,fitL_of (by simpa using hl) fun i hi=>?_⟩
  ·have:=hf 0 (by simp)
   rwa [hp_zero]at this
  ·have:=hf (i+1) (by simpa using hi)
   rw[hp_cons]at this
   simpa using this
def z3_:List Nat→Bool
 | []=>true
 | j::l=>!memN j l && z3_ l
theorem nodupN_spec:∀{l:List Nat},z3_ l=true→∀i j,i < j→j < l.length→l.getD i 0≠l.getD j 0
 | [],_,i,j,_,hj=>by simp at hj
 | k::l,h,i,j,hij,hj=>by
  simp only[z3_,Bool.and_eq_true,Bool.not_eq_true']at h
  obtain⟨j,rfl⟩:∃j',j=j'+1:=⟨j - 1,by omega⟩
  rw[List.getD_cons_succ]
  have hj':j < l.length:=by simpa using hj
  cases i with
  | zero=>
   rw[List.getD_cons_zero]
   intro e
   have:k∈l:=by
    rw[e,List.getD_eq_getElem?_getD,List.getElem?_eq_getElem hj']
    exact List.getElem_mem hj'
   rw[memN_iff.2 this]at h
   cases h.1
  | succ i=>
   rw[List.getD_cons_succ]
   exact nodupN_spec h.2 i j (by omega) hj'
theorem nodupN_ne {l:List Nat}(h:z3_ l=true){i j:Nat}(hi:i < l.length)(hj:j < l.length)(hne:i≠j):l.getD i 0≠l.getD j 0:=by
 rcases Nat.lt_or_gt_of_ne hne with h'|h'
 ·exact nodupN_spec h i j h' hj
 ·exact(nodupN_spec h j i h' hi).symm
theorem less_is_born {b c:HB}(h:Less b c)(hc:c.born=true):b.born=true:=by
 cases h with
 | same=>exact hc
 | dead=>cases hc
 | gone h=>exact h
 | arr=>rfl
 | loose=>rfl
 | val=>rfl
theorem bun1_born {ρ : Nat→Nat}{c b:HB}(h:Bun1 ρ c b):c.born=true:=by
 cases b with
 | own t u ex=>exact less_is_born h rfl
 | ro u=>exact Fit.born (ρ:=ρ) (b:=.ro u) h
 | gone=>exact Fit.born (ρ:=ρ) (b:=.gone) h
 | raw o=>exact h.elim
 | dead=>exact Fit.born (ρ:=ρ) (b:=.dead) h
theorem bun_ok {f:FuncId}{args0 args:List SV}{L0 L1:List HB}{v val:SV}{w0 w:World}{M:Nat→Prop}{β : Env}{h h':HM}{m:Nat}{wr:List (Nat×HB)}(l:List Nat)(H:zs_ Tryz.prog f args0 L0 v L1)(R:Rep w0 M β h' w)
  (hlen:l.length=L0.length) (hpos:0 < L0.length) (h00:l.getD 0 0=0) (hz:hp L0 0=.gone) (hnd:z3_ l=true) (hB:BunL (wd_ l m) h' L0 l)
  (hm:∀i,m≤i→h i=.dead) (hwr:∀p∈newB (wd_ l m) m (L1.drop L0.length),h' p.1=h p.1) (hle:L0.length≤L1.length) (hno:noRo2 L0 L1=true)
  (hst0:xo_ (hp L0) L0) (hsta:ze_ (hp L0) args0) (hst1:xo_ (hp (mrgL L0 L1)) (mrgL L0 L1)) (hv:zc_ (hp (mrgL L0 L1)) v)
  (hargs:renL (wd_ l m) args0=args) (hval:v.ren (wd_ l m)=val) (hw:oldB (wd_ l m) L0 L1 l++newB (wd_ l m) m (L1.drop L0.length)=wr) :
  Calls Tryz.prog f (denL β args).toArray w fun e w'=>∃β',(∀i,(h' i).born=true→β i = β' i)∧Rep w0 M β' (wrs h' wr) w'∧zc_ (wrs h' wr) val∧e=.returned (val.den β'):=by
 have hne:∀i j,i < L0.length→j < L0.length→i≠j→l.getD i 0≠l.getD j 0:=fun i j hi hj hn=>nodupN_ne hnd (by omega) (by omega) hn
 have hbun:=bunL_get hB
 obtain⟨H1,hH1⟩:∃H1,H1=wrs h' (oldB (wd_ l m) L0 L0 l):=⟨_,rfl⟩
 have him:∀i,i < L0.length→(hp L0 i).mine=true→H1 (l.getD i 0)=(hp L0 i).ren (wd_ l m):=fun i hi hmi=>by
  rw[hH1]
  exact wrs_oldB (Nat.le_refl _) hlen (fun a b hab hb _ _=>hne a b (by omega) hb (by omega)) i hi hmi
 have hneq:∀j,(∀i,i < L0.length→(hp L0 i).mine=true→l.getD i 0≠j)→H1 j=h' j:=fun j hj=>by
  rw[hH1];exact wrs_oldB_ne hj
 have hrl:∀i,i < L0.length→wd_ l m i=l.getD i 0:=fun i hi=>if_pos (by omega)
 have less1:∀i,Less (h' i) (H1 i):=fun j=>by
  by_cases hc:∃i,i < L0.length∧(hp L0 i).mine=true∧l.getD i 0=j
  ·obtain⟨i,hi,hmi,rfl⟩:=hc
   rw[him i hi hmi]
   have:=hbun i hi
   cases hh:hp L0 i<;>rw[hh]at hmi this<;>first |(cases hmi;done)|exact this.elim|exact this
  ·rw[hneq j fun i hi hmi e=>hc ⟨i,hi,hmi,e⟩];exact .same _
 have born1:∀i,(h' i).born=true→(H1 i).born=true:=fun j hj=>by
  by_cases hc:∃i,i < L0.length∧(hp L0 i).mine=true∧l.getD i 0=j
  ·obtain⟨i,hi,hmi,rfl⟩:=hc
   rw[him i hi hmi]
   cases hh:hp L0 i<;>rw[hh]at hmi<;>first |(cases hmi;done)|rfl
  ·rw[hneq j fun i hi hmi e=>hc ⟨i,hi,hmi,e⟩];exact hj
 have bornL:∀i,(hp L0 i).born=true→(H1 (wd_ l m i)).born=true:=fun i hi=>by
  have hlt:i < L0.length:=by
   rcases Nat.lt_or_ge i L0.length with h'|h'
   ·exact h'
   ·rw[xn_ h']at hi;cases hi
  rw[hrl i hlt]
  exact born1 _ (bun1_born (hbun i hlt))
 have H0:H1 0=.gone:=by
  rw[hneq 0 fun i hi hmi e=>?_]
  ·exact R.nil0
  ·have:i=0:=by
    by_cases hi0:i=0
    ·exact hi0
    ·exact absurd (e.trans h00.symm) (hne i 0 hi hpos hi0)
   subst this
   rw[hz]at hmi;cases hmi
 have R1:Rep w0 M β H1 w:=R.less less1 H0 fun j=>by
  by_cases hc:∃i,i < L0.length∧(hp L0 i).mine=true∧l.getD i 0=j
  ·obtain⟨i,hi,hmi,rfl⟩:=hc
   rw[him i hi hmi]
   have hs:=wf_ hst0 i
   have hb:=hbun i hi
   cases hh:hp L0 i<;>rw[hh]at hmi hs hb<;>first |(cases hmi;done)|exact zc_.ren bornL hs|exact hb.elim
  ·rw[hneq j fun i hi hmi e=>hc ⟨i,hi,hmi,e⟩]
   exact HB.stable_more (R.st j) born1
 have hfit:FitL (wd_ l m) H1 L0 l:=fitL_of hlen fun i hi=>by
  cases hh:hp L0 i with
  | own t u ex=>
   rw[him i hi (by rw[hh];rfl),hh]
   exact .own
  | raw o=>exact(by have hb:=hbun i hi;rw[hh]at hb;exact hb.elim)
  | _=>
   have hb:=hbun i hi
   rw [hneq (l.getD i 0) fun k hk hmk e=>by
    by_cases hki:k=i
    ·subst hki;rw[hh]at hmk;cases hmk
    ·exact hne k i hk hi hki e]
   rw[hh]at hb
   exact hb
 have hnew:∀p∈newB (wd_ l m) m (L1.drop L0.length),H1 p.1=h p.1:=fun p hp=>by
  have hge:m≤p.1:=by
   have:∀(L:List HB) (k:Nat),m≤k→p∈newB (wd_ l m) k L→m≤p.1:=by
    intro L
    induction L with
    | nil=>intro k hk hp;cases hp
    | cons b L ih=>
     intro k hk hp
     cases hp with
     | head=>exact hk
     | tail _ hp=>exact ih (k+1) (by omega) hp
   exact this _ m (Nat.le_refl _) hp
  rw[hneq p.1 fun i hi hmi e=>?_]
  ·exact hwr p hp
  ·have hb:=bun1_born (hbun i hi)
   rw[e,hwr p hp,hm _ hge]at hb
   cases hb
 have C:=callRW (h:=h) (m:=m) l H R1 hlen hpos h00 hz hfit (fun i j hi hj hn _ _=>hne i j hi hj hn) hm hnew hle hno hst0 hsta hst1 hv
 rw[hargs,hval,hw]at C
 have hww:wrs H1 wr=wrs h' wr:=by
  rw[←hw,wrs_app,wrs_app]
  congr 1
  funext j
  by_cases hc:∃i,i < L0.length∧(hp L0 i).mine=true∧l.getD i 0=j
  ·obtain⟨i,hi,hmi,rfl⟩:=hc
   rw[wrs_oldB hle hlen (fun a b hab hb _ _=>hne a b (by omega) hb (by omega)) i hi hmi,wrs_oldB hle hlen (fun a b hab hb _ _=>hne a b (by omega) hb (by omega)) i hi hmi]
  ·rw[wrs_oldB_ne fun i hi hmi e=>hc ⟨i,hi,hmi,e⟩,wrs_oldB_ne fun i hi hmi e=>hc ⟨i,hi,hmi,e⟩]
   exact hneq j fun i hi hmi e=>hc ⟨i,hi,hmi,e⟩
 rw[hww]at C
 exact C.mono fun e w' ⟨β',g1,g2,g3,g4⟩=>⟨β',fun i hi=>g1 i (born1 i hi),g2,g3,g4⟩
end Go.Proofs.YtjliakjbdcplcaaGreat.Vm
end
section
namespace Go.Proofs.YtjliakjbdcplcaaGreat.Vm
open Go.RowKit
attribute [local push_cast] prS zo_ zp_ xt_ y8_ y7_ y6_ y5_ y4_ xs_ y3_ y2_ y1_ zn_ z2_ z4_ z1_ zu_ zt_ iOf
section
variable {ρ : Nat→Nat} {h h':HM} {g c k a b:Nat} {s:Sta} {v:Evi} {x:Ins} {ok:Prop}
theorem bun_mac (hp:macP h g=some (s,v,x,c,k,ok))(hok:ok)(eg:h' g=h g)(ha:ρ a=c)(hb:ρ b=k):Bun1 ρ (h' g) (mB s v x a b):=by
 obtain⟨l,cf,sf,hg,hgl,_⟩:=mac_val hp hok
 show Less (h' g) (.own 186 ((macS s v x a b).ren ρ) true)
 rw[eg,hg,macS_ren,ha,hb]
 exact .val hgl (fun n k f e=>by cases e) (fun n k f e=>by cases e)
theorem bun_macR (hp:macP h g=some (s,v,x,c,k,ok))(hok:ok)(eg:h' g=h g)(ha:ρ a=c)(hb:ρ b=k):Bun1 ρ (h' g) (.ro (macS s v x a b)):=by
 obtain⟨l,cf,sf,hg,hgl,_⟩:=mac_val hp hok
 show Fit ρ _ _
 exact .ro (u:=.agg l) (by rw[eg,hg];rfl) (fun β=>by rw[macS_ren,ha,hb];exact hgl β) (fun n k f e=>by rw[macS_ren]at e;cases e)
theorem bun_cel (hp:macP h g=some (s,v,x,c,k,ok))(hok:ok)(ec:h' c=h c):Bun1 ρ (h' c) (cB s):=by
 obtain⟨l,cf,sf,hg,hgl,hc,hcl,_⟩:=mac_val hp hok
 show Less (h' c) (.own 2 (.arr s.cells.length 1 (zp_ s.cells)) false)
 rw[ec,hc]
 exact .val (fun β=>arrCl (hcl β)) (fun n k f e=>by injection e with e1 e2 e3;subst e1 e2;exact⟨_,rfl⟩) (fun n k f e=>by injection e with e1 e2 e3;subst e1 e2;exact⟨_,rfl⟩)
theorem sndsS_ren (ρ : Nat→Nat)(l:List Snd):(fun q=>(zo_ l q).ren ρ)=zo_ l:=by
 funext q;unfold zo_;simp only[sndS,SV.ren,renL]
theorem bun_snd (hp:macP h g=some (s,v,x,c,k,ok))(hok:ok)(ek:h' k=h k):Bun1 ρ (h' k) (sB s):=by
 obtain⟨l,cf,sf,hg,hgl,hc,hcl,hk,hkl,_⟩:=mac_val hp hok
 show Less (h' k) (.own 125 (.arr s.sends.length 3 fun q=>(zo_ s.sends q).ren ρ) false)
 rw[ek,hk,sndsS_ren]
 exact .val (fun β=>arrCl (hkl β)) (fun n k f e=>by injection e with e1 e2 e3;subst e1 e2;exact⟨_,rfl⟩) (fun n k f e=>by injection e with e1 e2 e3;subst e1 e2;exact⟨_,rfl⟩)
theorem bun_cel0 (hp:macP h g=some (s,v,x,c,k,ok))(hok:ok)(ec:h' c=h c):Bun1 ρ (h' c) .gone:=by
 obtain⟨l,cf,sf,hg,hgl,hc,_⟩:=mac_val hp hok
 exact Fit.gone (by rw[ec,hc];rfl)
theorem bun_snd0 (hp:macP h g=some (s,v,x,c,k,ok))(hok:ok)(ek:h' k=h k):Bun1 ρ (h' k) .gone:=by
 obtain⟨l,cf,sf,hg,hgl,hc,_,hk,_⟩:=mac_val hp hok
 exact Fit.gone (by rw[ek,hk];rfl)
def prP (h:HM)(i:Nat):Option (Nat×List Ins×Prop):=match h i with
 | .own t (.arr n 5 f) false=>bif Nat.beq t 38 then some (n,ls zm_ n f,∀q,q < n→isIns (f q)=true)else none
 | _=>none
def prR (P:List Ins):HB:=.ro (.arr P.length 5 (prS P))
def prO (P:List Ins):HB:=.own 38 (.arr P.length 5 (prS P)) false
variable {i n:Nat} {P:List Ins}
theorem prP_len (hp:prP h i=some (n,P,ok)):n=P.length:=by
 unfold prP at hp
 split at hp
 ·obtain⟨hb,hs⟩:=zl_ hp
  simp only[Option.some.injEq,Prod.mk.injEq]at hs
  obtain⟨rfl,rfl,rfl⟩:=hs
  rw[zb_]
 ·cases hp
theorem bun_pr (hp:prP h i=some (n,P,ok))(hok:ok)(ei:h' i=h i):Bun1 ρ (h' i) (prR P):=by
 unfold prP at hp
 split at hp
 ·rename_i t n f hi
  obtain⟨hb,hs⟩:=zl_ hp
  simp only[Option.some.injEq,Prod.mk.injEq]at hs
  obtain⟨rfl,rfl,rfl⟩:=hs
  refine Fit.ro (u := .arr n 5 f) (by rw [ei, hi]; rfl) (fun β => ?_) (fun n1 k1 f1 e=>by
   simp only[SV.ren]at e
   injection e with e1 e2 e3
   rw[zb_]at e1
   subst e1 e2
   exact⟨_,rfl⟩)
  simp only[SV.ren,prS_ren,zb_]
  refine arrCl fun q hq=>?_
  unfold prS
  rw[isIns_cl (hok q hq),ls_getD hq,isIns_cl (zn_ _),z2_]
 ·cases hp
theorem bun_pr0 (hp:prP h i=some (n,P,ok))(ei:h' i=h i):Bun1 ρ (h' i) .gone:=by
 unfold prP at hp
 split at hp
 ·rename_i t n f hi
  exact Fit.gone (by rw[ei,hi];rfl)
 ·cases hp
end
def pS:yn_:=fun args h m=>match args with
 | [.ptr g [],.sl z i [] 5 0 n none]=>match macP h g,prP h i with
  | some (s,v,x,c,k,ok),some (n',P,ok2)=>bif Nat.beq z i && Nat.beq n n' && z3_ [0,g,c,k,i] then
    some ((ok∧ok2)∧PG P∧VOk v∧SG P s,.int .i64 (x3_ P v s),[g,c,k,i],[(g,mB (xx_ P v s) v (stepX P s x) c m),(c,cB (xx_ P v s)),(k,.gone),(m,sB (xx_ P v s))])else none
  | _,_=>none
 | _=>none
def cSt:FuncId→Option yn_:=y9_ [(157,mS doF)]
theorem cSt_ok:∀f S,cSt f=some S→zi_ Tryz.prog f S:=zr_ ⟨m_do,trivial⟩
theorem step_lit (P:List Ins)(s:Sta)(v:Evi)(x:Ins)(hP:PG P)(V:VOk v)(hS:SG P s):zs_ Tryz.prog 122 [.ptr 1 [],.sl 4 4 [] 5 0 P.length none] [.gone,mB s v x 2 3,cB s,sB s,prR P] (.int .i64 (x3_ P v s))
  [.gone,mB (xx_ P v s) v (stepX P s x) 2 5,cB (xx_ P v s),.gone,.gone,sB (xx_ P v s)]:=by
 have R:=hS.ri hP
 have S:=hS.sok hP
 have a0:=hS.a0
 have a1:=hS.a1
 have hlt:s.at_.toNat < P.length:=by omega
 have hl:=hP.len
 unfold insAt at R
 obtain⟨at0,en,rg,ce,dr,se⟩:=s
 dsimp only at a0 a1 hlt R
 cases en
 ·have e1:x3_ P v ⟨at0,false,rg,ce,dr,se⟩=doE ⟨at0,false,rg,ce,dr,se⟩ v (P.getD at0.toNat ⟨0,0,0,0,0⟩):=rfl
  have e2:xx_ P v ⟨at0,false,rg,ce,dr,se⟩=doS ⟨at0,false,rg,ce,dr,se⟩ v (P.getD at0.toNat ⟨0,0,0,0,0⟩):=rfl
  have e3:stepX P ⟨at0,false,rg,ce,dr,se⟩ x=P.getD at0.toNat ⟨0,0,0,0,0⟩:=rfl
  rw[e1,e2,e3]
  refine zf_ (fn:=Tryz.f122) 5 23 0 rfl rfl rfl rfl rfl (by simp only[ze_,zc_,hp,zp_,prS,yu_,zo_,sndS,stS,evS,macS];simp[HB.born,mB,cB,sB,prR]) rfl fun w0 M E hro=>?_
  repeat' (first|refine Ctl.h ?_ |((with_reducible intro hif);first |(focus (cases hif;done)) |((try simp only[JH]at hif);try exact hy_)) |((with_reducible first|apply J22 cSt_ok za_|apply J23 fol cSt_ok za_|apply J24);(·rfl);(· exact k96_);(try kernel_rfl);try exact k15_)|fail)
  apply At.endsPick [0,1,2,3,4,5] za_ (fn:=Tryz.f122) (rs:=[.tmp 4]) Anc.refl hro (lb_ rfl) rfl
  ·exact yl_
  ·exact xz_
  ·rfl
  ·rfl
  ·rfl
  ·exact k40_
  ·rfl
  ·exact xg_
  ·exact k9_
  ·exact fun β=>rfl
  ·exact xg_
 ·have e1:x3_ P v ⟨at0,true,rg,ce,dr,se⟩=183:=rfl
  have e2:xx_ P v ⟨at0,true,rg,ce,dr,se⟩=⟨at0,true,rg,ce,dr,se⟩:=rfl
  have e3:stepX P ⟨at0,true,rg,ce,dr,se⟩ x=x:=rfl
  rw[e1,e2,e3]
  refine zf_ (fn:=Tryz.f122) 5 23 0 rfl rfl rfl rfl rfl (by simp only[ze_,zc_,hp,zp_,prS,yu_,zo_,sndS,stS,evS,macS];simp[HB.born,mB,cB,sB,prR]) rfl fun w0 M E hro=>?_
  repeat' (first|refine Ctl.h ?_ |((with_reducible intro hif);first |(focus (cases hif;done)) |((try simp only[JH]at hif);try exact hy_)) |((with_reducible first|apply J22 cSt_ok za_|apply J23 fol cSt_ok za_|apply J24);(·rfl);(· exact k96_);(try kernel_rfl);try exact k15_)|fail)
  apply At.endsPick [0,1,2,3,4,3] za_ (fn:=Tryz.f122) (rs:=[.tmp 4]) Anc.refl hro (lb_ rfl) rfl
  ·exact yl_
  ·exact xz_
  ·rfl
  ·rfl
  ·rfl
  ·exact k40_
  ·rfl
  ·exact xg_
  ·exact k9_
  ·exact fun β=>rfl
  ·exact xg_
end Go.Proofs.YtjliakjbdcplcaaGreat.Vm
end
section
namespace Go.Proofs.YtjliakjbdcplcaaGreat.Vm
open Go.RowKit
def sRt18:yn_:=fun args h m=>match args with
 | [v1,.agg [v2,v3,v4,v5,v6],.agg [v7,.bool v8,.arr 8 1 v9,v10,v11,v12]]=>match xm_ h 5 (.tup []) v1,xm_ h 1 (.tup []) v10,xm_ h 3 (.tup []) v12 with
  | some (c1,n1,f1,r1),some (c10,n10,f10,r10),some (c12,n12,f12,r12)=>bif isI .u64 v2 && isI .i64 v3 && isI .i64 v4 && isI .i64 v5 && isI .i64 v6 && isI .i64 v7 && isI .i64 v11 then some (c1∧c10∧c12∧(∀q,q < n1→isIns (f1 q)=true)∧(∀q,q < n10→isI .i64 (f10 q)=true)∧(∀q,q < n12→isSnd (f12 q)=true)∧(∀q,q < 8→isI .i64 (v9 q)=true)∧((∀x∈(ls zm_ n1 f1),x.ok))∧(n1≤1000000)∧(n10≤1000000),.int .i64 (yt_ (ls zm_ n1 f1) ⟨(iOf v2),(iOf v3),(iOf v4),(iOf v5),(iOf v6)⟩ ⟨(iOf v7),v8,(fun q=>iOf (v9 q)),(ls iOf n10 f10),(iOf v11),(ls zw_ n12 f12)⟩),r1++r10++r12,[])else none
  | _,_,_=>none
 | _=>none
theorem sRt18_ok:zi_ Tryz.prog 39 sRt18:=by
 refine⟨zg_ (by kernel_rfl),fun args h m c v rd wr hs hm hc w0 M β h' w R hrd hwr hst=>?_⟩
 unfold sRt18 at hs
 split at hs
 ·rename_i v1 v2 v3 v4 v5 v6 v7 v8 v9 v10 v11 v12
  split at hs
  ·rename_i c1 n1 f1 r1 c10 n10 f10 r10 c12 n12 f12 r12 a1 a10 a12
   obtain⟨hb,hs⟩:=zl_ hs
   simp only[Option.some.injEq,Prod.mk.injEq]at hs
   obtain⟨rfl,rfl,rfl,rfl⟩:=hs
   simp only[Bool.and_eq_true]at hb
   obtain⟨⟨⟨⟨⟨⟨b2,b3⟩,b4⟩,b5⟩,b6⟩,b7⟩,b11⟩:=hb
   obtain⟨k1,k10,k12,g1,g10,g12,g9,y1,y2,y3⟩:=hc
   obtain⟨A1,p1,d1,e1,t1⟩:=zh_ R a1 k1 (fun i hi=>hrd i (List.mem_append_left _ (List.mem_append_left _ hi))) (by omega)
   obtain⟨A10,p10,d10,e10,t10⟩:=zh_ R a10 k10 (fun i hi=>hrd i (List.mem_append_left _ (List.mem_append_right _ hi))) (by omega)
   obtain⟨A12,p12,d12,e12,t12⟩:=zh_ R a12 k12 (fun i hi=>hrd i (List.mem_append_right _ hi)) (by omega)
   refine yh_ (views:=[⟨5,(ls zm_ n1 f1).length,prS (ls zm_ n1 f1),A1,p1⟩,⟨1,(ls iOf n10 f10).length,zp_ (ls iOf n10 f10),A10,p10⟩,⟨3,(ls zw_ n12 f12).length,zo_ (ls zw_ n12 f12),A12,p12⟩]) (right18_lit (ls zm_ n1 f1) ⟨(iOf v2),(iOf v3),(iOf v4),(iOf v5),(iOf v6)⟩ ⟨(iOf v7),v8,(fun q=>iOf (v9 q)),(ls iOf n10 f10),(iOf v11),(ls zw_ n12 f12)⟩ p1 p10 p12 y1 (by rw[zb_];exact y2) (by show List.length (ls _ _ _)≤_;rw[zb_];exact y3)) ?_ R hm hwr ?_ ?_ ?_
   ·exact d41_
   ·intro β1 hv
    simp only[Vd,zb_,and_true]at hv
    obtain⟨z1,z10,z12⟩:=hv
    simp only[denL,yb_,ya_,z9_,zx_,zb_,yu_,evS,sr,csl,ssl,z1,z10,z12,d1,d10,d12,zd_ b2,zd_ b3,zd_ b4,zd_ b5,zd_ b6,zd_ b7,zd_ b11,←r8Den (β:=β) (β1:=β1) g9]
   ·exact k66_
   ·exact k66_
  ·cases hs
 ·cases hs
def runB (P:List Ins)(v:Evi):Nat→Sta→Bool→Bool→Bool×Bool
 | 0,_,c,d=>(c,d)
 | n+1,s,c,d=>if s.ended=true then(c,d)else
  if x3_ P v s=0 then runB P v n (xx_ P v s) (c || decide ((insAt P s.at_).op=6)) (d || decide ((insAt P s.at_).op=8))else(c,d)
theorem runB_end {P:List Ins}{v:Evi}{n:Nat}{s:Sta}{c d:Bool}(h:s.ended=true):runB P v n s c d=(c,d):=by cases n<;>simp[runB,h]
theorem runB_go {P:List Ins}{v:Evi}{n:Nat}{s:Sta}{c d:Bool}(h:s.ended=false)(hn:0 < n)(he:x3_ P v s=0):runB P v n s c d=runB P v (n - 1) (xx_ P v s) (c || decide ((insAt P s.at_).op=6)) (d || decide ((insAt P s.at_).op=8)):=by
 obtain⟨n,rfl⟩:∃k,n=k+1:=⟨n - 1,by omega⟩
 simp[runB,h,he]
theorem runB_bad {P:List Ins}{v:Evi}{n:Nat}{s:Sta}{c d:Bool}(h:s.ended=false)(he:x3_ P v s≠0):runB P v n s c d=(c,d):=by
 cases n
 ·rfl
 ·simp[runB,h,he]
structure FG (P:List Ins) (s:Sta):Prop where
 sg:SG P s
 rg:∀q,R64 (s.regs q)
 cr:CR s
 sd:s.sends.length≤256
theorem FG.ook {P:List Ins}{v:Evi}{s:Sta}(h:FG P s)(hP:PG P)(V:VOk v):OOk s v (insAt P s.at_):=by
 have R:=h.sg.ri hP
 have ⟨o0,o1,a0,a1,b0,b1,c0,c1,n0,n1⟩:=R.ok
 exact⟨R,V,h.sg.sok hP,h.rg,n0,n1,by have:=h.sd;omega⟩
theorem doS_sends {s:Sta}{v:Evi}{x:Ins}(h:s.sends.length≤256):(doS s v x).sends.length≤256:=by
 by_cases hE:doE s v x=0
 ·by_cases h8:x.op=8
  ·have hl:s.sends.length < 256:=by
    rcases Nat.lt_or_ge s.sends.length 256 with h'|h'
    ·exact h'
    ·exfalso
     have h3:doE s v x=sendE s v x:=by simp[doE,h8]
     unfold sendE at h3
     rw[hE,if_pos h']at h3
     split at h3
     ·omega
     ·split at h3
      ·omega
      ·split at h3<;>omega
   have e:doS s v x={ s with at_:=s.at_+1,sends:=s.sends++[⟨x.n,s.regs x.a.toNat,s.regs x.b.toNat⟩] }:=by simp[doS,hE,h8]
   rw[e]
   simp only[List.length_append,List.length_cons,List.length_nil]
   omega
  ·have e:(doS s v x).sends=s.sends:=by
    unfold doS
    simp only[apply_ite Sta.sends,if_neg h8,Sta.put,ite_self]
   rw[e];exact h
 ·rw[doS_bad hE];exact h
theorem doS_cells6 {s:Sta}{v:Evi}{x:Ins}(h:x.op≠6):(doS s v x).cells=s.cells:=by
 unfold doS
 simp only[apply_ite Sta.cells,if_neg h,Sta.put,ite_self]
theorem doS_sends8 {s:Sta}{v:Evi}{x:Ins}(h:x.op≠8):(doS s v x).sends=s.sends:=by
 unfold doS
 simp only[apply_ite Sta.sends,if_neg h,Sta.put,ite_self]
theorem doS_clen (s:Sta)(v:Evi)(x:Ins):(doS s v x).cells.length=s.cells.length:=by
 unfold doS
 simp only[apply_ite Sta.cells,apply_ite List.length,Sta.put,List.length_set,ite_self]
theorem doS_slen {s:Sta}{v:Evi}{x:Ins}(hE:doE s v x=0)(h:x.op=8):(doS s v x).sends.length=s.sends.length+1:=by
 have e:doS s v x={ s with at_:=s.at_+1,sends:=s.sends++[⟨x.n,s.regs x.a.toNat,s.regs x.b.toNat⟩] }:=by simp[doS,hE,h]
 rw[e]
 simp only[List.length_append,List.length_cons,List.length_nil]
theorem FG.step {P:List Ins}{v:Evi}{s:Sta}(h:FG P s)(hP:PG P)(V:VOk v)(he:s.ended=false):FG P (xx_ P v s):=by
 have K:=h.ook hP V
 have e:xx_ P v s=doS s v (insAt P s.at_):=by unfold xx_;rw[if_neg (by rw[he];exact Bool.noConfusion)]
 rw[e]
 have hR:=doS_R K h.cr
 exact⟨doS_good h.sg hP,hR.1,hR.2,doS_sends h.sd⟩
structure FS where
 k:Nat
 s:Sta
 x:Ins
 tr:List Int
 a:Int
 fc:Bool
 fs:Bool
 nc:Nat
 ns:Nat
def FS.ct (z:FS):List Int:=bif z.fc then z.s.cells else []
def FS.st (z:FS):List Snd:=bif z.fs then z.s.sends else []
structure FInv (P:List Ins) (v:Evi) (f:Nat) (s0:Sta) (R:RR) (B:Bool×Bool) (z:FS):Prop where
 hk:z.k≤f
 hg:FG P z.s
 hl:z.tr.length=z.k
 hr:xq_ P v (f - z.k) z.s z.x z.tr z.a=R
 hb:runB P v (f - z.k) z.s z.fc z.fs=B
 hc:z.s.cells.length=z.nc
 hs:z.s.sends.length=z.ns
 hc2:z.fc=false→z.s.cells=s0.cells
 hs2:z.fs=false→z.s.sends=s0.sends
theorem stepS_of {P:List Ins}{v:Evi}{s:Sta}(he:s.ended=false):xx_ P v s=doS s v (insAt P s.at_):=by unfold xx_;rw[if_neg (by rw[he];exact Bool.noConfusion)]
theorem stepE_of {P:List Ins}{v:Evi}{s:Sta}(he:s.ended=false):x3_ P v s=doE s v (insAt P s.at_):=by unfold x3_;rw[if_neg (by rw[he];exact Bool.noConfusion)]
theorem FInv.step {P:List Ins}{v:Evi}{f:Nat}{s0:Sta}{R:RR}{B:Bool×Bool}{z:FS}(H:FInv P v f s0 R B z)(hP:PG P)(V:VOk v)(he:z.s.ended=false)(hkf:z.k < f)(x:Ins)(hx:insAt P z.s.at_=x)(h:doE z.s v x=0)(c d:Bool)(m:Nat)
  (hc:c=(z.fc || decide (x.op=6))) (hd:d=(z.fs || decide (x.op=8))) (hm:(doS z.s v x).sends.length=m):FInv P v f s0 R B ⟨z.k+1,doS z.s v x,stepX P z.s z.x,z.tr++[z.s.at_],z.s.at_,c,d,z.nc,m⟩:=by
 subst hx
 have e:=stepS_of (P:=P) (v:=v) he
 have h':x3_ P v z.s=0:=by rw[stepE_of he];exact h
 refine⟨hkf,?_,by simp[H.hl],?_,?_,?_,hm,fun hf=>?_,fun hf=>?_⟩
 ·have:=H.hg.step hP V he;rwa [e]at this
 ·have:=H.hr;rw[runA_go he (by omega) h',e]at this
  exact this
 ·have:=H.hb;rw[runB_go he (by omega) h',e,←hc,←hd]at this
  exact this
 ·exact(doS_clen _ _ _).trans H.hc
 ·dsimp only at hf ⊢
  rw[hf]at hc
  have hc:=hc.symm
  simp only[Bool.or_eq_false_iff,decide_eq_false_iff_not]at hc
  rw[doS_cells6 hc.2];exact H.hc2 hc.1
 ·dsimp only at hf ⊢
  rw[hf]at hd
  have hd:=hd.symm
  simp only[Bool.or_eq_false_iff,decide_eq_false_iff_not]at hd
  rw[doS_sends8 hd.2];exact H.hs2 hd.1
def cRf (l:List Int):HB:=.own 2 (.arr l.length 1 (zp_ l)) false
def sRf (l:List Snd):HB:=.own 177 (.arr l.length 3 (zo_ l)) false
def trO (l:List Int):HB:=.own 3 (.arr l.length 1 (zp_ l)) false
theorem less_i64n {t n:Nat}{b:Bool}{σ : Nat→Nat}{l m:List Int}(hn:n=m.length)(hl:l=m):Less (.own t (.arr n 1 (zp_ l)) b) ((HB.own t (.arr m.length 1 (zp_ m)) b).ren σ):=by
 subst hn hl;exact .same _
theorem less_sndn {t n:Nat}{b:Bool}{σ : Nat→Nat}{l m:List Snd}(hn:n=m.length)(hl:l=m):Less (.own t (.arr n 3 (zo_ l)) b) ((HB.own t (.arr m.length 3 (zo_ m)) b).ren σ):=by
 subst hn hl
 have e:(HB.own t (.arr l.length 3 (zo_ l)) b).ren σ = .own t (.arr l.length 3 (zo_ l)) b:=by
  simp only[HB.ren,SV.ren];rw[sndsS_ren]
 rw[e];exact .same _
theorem less_tr1 {t:Nat}{b:Bool}{σ : Nat→Nat}(D:List Int)(y:Int){g:Nat→SV}{xv z:SV}(hg:g=fun q=>SV.ite (decide (q < D.length)) (.int .i64 (D.getD q 0)) ([xv].getD (q - D.length) z))(hx:∀β,xv.cl β = [.int .i64 y]):Less (.own t (.arr (D.length+1) 1 g) b) ((HB.own t (.arr (D.length+1) 1 (zp_ (D++[y]))) b).ren σ):=by
 refine less_arL (D++[y]) fun β q hq=>?_
 subst hg
 dsimp only
 rw[xk_]
 by_cases h:q < D.length
 ·simp only[h,decide_true,cond_true,List.getD_eq_getElem?_getD,List.getElem?_append_left h];rfl
 ·obtain rfl:q=D.length:=by omega
  simp only[Nat.lt_irrefl,decide_false,cond_false,Nat.sub_self,List.getD_cons_zero,hx,List.getD_eq_getElem?_getD,List.getElem?_append_right (Nat.le_refl _),List.getElem?_cons_zero,Option.getD_some]
theorem less_tr {t:Nat}{b:Bool}{σ : Nat→Nat}(D:List Int)(y:Int){g:Nat→SV}{xv z:SV}(hg:g=fun q=>SV.ite (decide (q < D.length)) (.int .i64 (D.getD q 0)) ([xv].getD (q - D.length) z))(hx:∀β,xv.cl β = [.int .i64 y]):Less (.own t (.arr (D.length+1) 1 g) b) ((HB.own t (.arr (D++[y]).length 1 (zp_ (D++[y]))) b).ren σ):=by
 rw[show (D++[y]).length=D.length+1 from by simp]
 exact less_tr1 D y hg hx
end Go.Proofs.YtjliakjbdcplcaaGreat.Vm
end

import Derived.Test.YtjliakjbdcplcaaU1
import Derived.Test.YtjliakjbdcplcaaU13
set_option linter.unusedSimpArgs false
set_option linter.unusedVariables false
set_option maxRecDepth 100000
set_option maxHeartbeats 4000000
section
namespace Go.Proofs.Ytjliakjbdcplcaa.Vm
open Go.RowKit
attribute [local push_cast] eqB eqBL allB prS zt_ i64S xo_ y3_ y2_ y1_ y0_ yz_ xn_ yy_ yx_ yw_ zy_ zv_ zw_ zu_ y5_ y4_ iOf JM rS mS macP aF bF cF putF jumpIfF sApply inR inN
def sDraw:yr_:=fun args h m=>match args with
 | [v1,v2,v3,v4]=>bif isI .u64 v1 && isI .i64 v2 && isI .i64 v3 && isI .i64 v4 then some ((0≤(iOf v2))∧((iOf v2)≤65536)∧(0≤(iOf v3))∧((iOf v3)≤281474976710656)∧(1≤(iOf v4)),.tup [.int .i64 (drawI (iOf v1) (iOf v2) (iOf v3) (iOf v4)),.int .i64 0],[],[])else none
 | _=>none
theorem sDraw_ok:zh_ Try.prog 137 sDraw:=by
 refine⟨zf_ (by kernel_rfl),fun args h m c v rd wr hs hm hc w0 M β h' w R hrd hwr hst=>?_⟩
 unfold sDraw at hs
 split at hs
 ·rename_i v1 v2 v3 v4
  obtain⟨hb,hs⟩:=zj_ hs
  simp only[Option.some.injEq,Prod.mk.injEq]at hs
  obtain⟨rfl,rfl,rfl,rfl⟩:=hs
  simp only[Bool.and_eq_true]at hb
  obtain⟨⟨⟨b1,b2⟩,b3⟩,b4⟩:=hb
  obtain⟨y1,y2,y3,y4,y5⟩:=hc
  simp only[denL,yp_,yo_,yn_,z6_,zc_ b1,zc_ b2,zc_ b3,zc_ b4]
  exact(draw_ok (iOf v1) (iOf v2) (iOf v3) (iOf v4) w y1 y2 y3 y4 y5).mono fun e w' he=>post_read R (by(repeat' (first|exact trivial|exact rfl|assumption|apply Stable.ite|apply And.intro|intro _ |(simp only[Stable,zd_,i64S,prS,insS,zt_,sndS,stS,evS,macS];done)))) rfl he.1 he.2
 ·cases hs
theorem less_mac {σ : Nat→Nat}{c k c' k':Nat}(s':Sta)(v:Evi)(x:Ins)(hc:σ c=c')(hk:σ k=k'){a d:Int}{e:Bool}{n1 n2:Nat}{rg:Nat→SV}(h1:a=s'.at_)(h2:e=s'.ended)(h3:∀q,q < 8→∀β,(rg q).cl β = [.int .i64 (s'.regs q)])(h4:n1=s'.cells.length)(h5:d=s'.draws)(h6:n2=s'.sends.length) :
  Less (.own 164 (.agg [.agg [.int .i64 a,.bool e,.arr 8 1 rg,.sl c' c' [] 1 0 n1 none,.int .i64 d,.sl k' k' [] 3 0 n2 none],.agg [.int .u64 v.seed,.int .i64 v.process,.int .i64 v.ports,.int .i64 v.look,.int .i64 v.now],insS x]) true) ((mB s' v x c k).ren σ):=by
 subst h1 h2 h4 h5 h6 hc hk
 rw[mB_ren]
 refine .val (fun β=>?_) (fun n k f e=>by cases e) (fun n k f e=>by cases e)
 have h8:(SV.arr 8 1 rg).cl β =(SV.arr 8 1 fun q=>.int .i64 (s'.regs q)).cl β:=arrCl fun q hq=>by rw[h3 q hq β];rfl
 simp only[macS,stS,evS,cl_agg,yf_,clL_nil,h8]
theorem less_set {t:Nat}{σ : Nat→Nat}(l:List Int)(r:Nat)(a:Int){n:Nat}(hn:n=l.length){g:Nat→SV}(hg:∀q,q < l.length→∀β,(g q).cl β = [.int .i64 (if q=r then a else l.getD q 0)]):Less (.own t (.arr n 1 g) false) ((HB.own t (.arr (l.set r a).length 1 (i64S (l.set r a))) false).ren σ):=by
 subst hn
 have e:(l.set r a).length=l.length:=by simp
 rw[e]
 refine .val (fun β=>arrCl fun q hq=>?_) (fun n1 k1 f1 e=>by injection e with e1 e2 e3;subst e1 e2;exact⟨_,rfl⟩) (fun n1 k1 f1 e=>by injection e with e1 e2 e3;subst e1 e2;exact⟨_,rfl⟩)
 rw[hg q hq β]
 show _=[Value.int .i64 ((l.set r a).getD q 0)]
 congr 2
 rw[List.getD_eq_getElem?_getD,List.getD_eq_getElem?_getD,List.getElem?_set]
 by_cases h:q=r
 ·subst h;simp[hq]
 ·rw[if_neg h,if_neg (fun e=>h e.symm)]
theorem less_snd {t:Nat}{σ : Nat→Nat}(l:List Snd)(y:Snd){n:Nat}(hn:n=l.length+1){g:Nat→SV}(hg:∀q,q < l.length+1→∀β,(g q).cl β =((l++[y]).getD q ⟨0,0,0⟩).cells):Less (.own t (.arr n 3 g) false) ((HB.own t (.arr (l++[y]).length 3 (zt_ (l++[y]))) false).ren σ):=by
 subst hn
 have e:(l++[y]).length=l.length+1:=by simp
 have e2:(fun q=>(zt_ (l++[y]) q).ren σ)=zt_ (l++[y]):=by
  funext q;unfold zt_;simp only[sndS,SV.ren,renL]
 simp only[HB.ren,SV.ren,e2,e]
 refine .val (fun β=>arrCl fun q hq=>?_) (fun n1 k1 f1 e=>by injection e with e1 e2 e3;subst e1 e2;exact⟨_,rfl⟩) (fun n1 k1 f1 e=>by injection e with e1 e2 e3;subst e1 e2;exact⟨_,rfl⟩)
 rw[hg q hq β]
 unfold zt_
 rw[isSnd_cl (zw_ _),zu_]
set_option linter.defProp false in
def JE:=And.intro @sta_eta (And.intro @evi_eta (And.intro @ls_i64S (And.intro @ls_i64S' (And.intro @ls_i64S2 (And.intro @ls_sndsS (And.intro @ls_sndsS' (And.intro @ls_sndsS2 (And.intro @ls_prS (And.intro @ls_prS' @ls_prS2)))))))))
def kF (k:Int)(mv:Bool):MF:=fun ar s v x=>match ar with
 | []=>some (x.op=k∧RI x∧VOk v∧SOk s,fun _=>.int .i64 (doE s v x),doS s v x,x,mv)
 | _=>none
def cM1:FuncId→Option yr_:=xb_ [(136,rS aF),(134,rS bF),(139,rS cF),(133,mS putF),(138,mS jumpIfF),(117,sApply),(137,sDraw)]
theorem yu_:∀f S,cM1 f=some S→zh_ Try.prog f S:=zn_ ⟨a_ok,b_ok,c_ok,put_ok,jumpIf_ok,sApply_ok,sDraw_ok,trivial⟩
theorem m_fail:zh_ Try.prog 119 (mS (kF 2 false)):=mS_ok (by kernel_rfl) fun ar s v x cond val s' x' mv hF hc=>by
 unfold kF at hF
 split at hF
 ·cases hF
  obtain⟨ho,R,V,S⟩:=hc
  obtain⟨o0,o1,a0,a1,b0,b1,c0,c1,n0,n1⟩:=R.ok
  have ha:=R.a
  have hb:=R.b
  have hcc:=R.c
  have s0:=S.a0
  have s1:=S.a1
  have d0:=S.d0
  have d1:=S.d1
  have sc:=S.c1
  have sn:=S.n1
  have v0:=V.p0
  have v1:=V.p1
  have v2:=V.t0
  have v3:=V.t1
  have v4:=V.o0
  have v5:=V.l0
  have hE:doE s v x=184:=by simp[doE,ho]
  have hS:doS s v x=s:=doS_bad (by rw[hE];decide)
  rw[hE,hS]
  refine⟨fun _=>rfl,fun _=>trivial,fun _ _=>rfl,fun _ _ _=>trivial,?_⟩
  refine zm_ (fn:=Try.f119) 4 3 0 rfl rfl rfl rfl rfl u1_ rfl fun w0 M E hro=>?_
  repeat' (first|refine Ctl.h ?_ |((with_reducible intro hif);first |(focus (cases hif;done)) |((try simp only[JH]at hif);try exact hy_)) |((with_reducible first|apply J22 yu_ za_|apply J23 fol yu_ za_|apply J24);(·rfl);(· exact k17_);(try kernel_rfl);try exact z9_)|fail)
  apply At.endsPick [0,1,2,3] za_ (fn:=Try.f119) (rs:=[.tmp 2]) Anc.refl hro (lb_ rfl) rfl
  ·exact k5_
  ·exact yq_
  ·rfl
  ·rfl
  ·rfl
  ·exact k15_
  ·rfl
  ·exact k8_
  ·exact k9_
  ·exact fun β=>rfl
  ·exact k8_
 ·cases hF
theorem m_halt:zh_ Try.prog 118 (mS (kF 1 false)):=mS_ok (by kernel_rfl) fun ar s v x cond val s' x' mv hF hc=>by
 unfold kF at hF
 split at hF
 ·cases hF
  obtain⟨ho,R,V,S⟩:=hc
  obtain⟨o0,o1,a0,a1,b0,b1,c0,c1,n0,n1⟩:=R.ok
  have ha:=R.a
  have hb:=R.b
  have hcc:=R.c
  have s0:=S.a0
  have s1:=S.a1
  have d0:=S.d0
  have d1:=S.d1
  have sc:=S.c1
  have sn:=S.n1
  have v0:=V.p0
  have v1:=V.p1
  have v2:=V.t0
  have v3:=V.t1
  have v4:=V.o0
  have v5:=V.l0
  have hE:doE s v x=0:=by simp[doE,ho]
  have hS:doS s v x={ s with ended:=true }:=by simp[doS,hE,ho]
  rw[hE,hS]
  refine⟨fun _=>rfl,fun _=>trivial,fun _ _=>rfl,fun _ _ _=>trivial,?_⟩
  refine zm_ (fn:=Try.f118) 4 7 0 rfl rfl rfl rfl rfl u1_ rfl fun w0 M E hro=>?_
  repeat' (first|refine Ctl.h ?_ |((with_reducible intro hif);first |(focus (cases hif;done)) |((try simp only[JH]at hif);try exact hy_)) |((with_reducible first|apply J22 yu_ za_|apply J23 fol yu_ za_|apply J24);(·rfl);(· exact k17_);(try kernel_rfl);try exact z9_)|fail)
  apply At.endsPick [0,1,2,3] za_ (fn:=Try.f118) (rs:=[.tmp 2]) Anc.refl hro (lb_ rfl) rfl
  ·exact k5_
  ·exact yq_
  ·rfl
  ·rfl
  ·rfl
  ·exact k15_
  ·rfl
  ·exact k8_
  ·exact k9_
  ·exact fun β=>rfl
  ·exact k8_
 ·cases hF
theorem m_set:zh_ Try.prog 120 (mS (kF 3 false)):=mS_ok (by kernel_rfl) fun ar s v x cond val s' x' mv hF hc=>by
 unfold kF at hF
 split at hF
 ·cases hF
  obtain⟨ho,R,V,S⟩:=hc
  obtain⟨o0,o1,a0,a1,b0,b1,c0,c1,n0,n1⟩:=R.ok
  have ha:=R.a
  have hb:=R.b
  have hcc:=R.c
  have s0:=S.a0
  have s1:=S.a1
  have d0:=S.d0
  have d1:=S.d1
  have sc:=S.c1
  have sn:=S.n1
  have v0:=V.p0
  have v1:=V.p1
  have v2:=V.t0
  have v3:=V.t1
  have v4:=V.o0
  have v5:=V.l0
  have hE:doE s v x=0:=by simp[doE,ho]
  have hS:doS s v x=s.put x.a.toNat x.n:=by simp[doS,hE,ho]
  rw[hE,hS]
  refine⟨fun _=>rfl,fun _=>trivial,fun _ _=>rfl,fun _ _ _=>trivial,?_⟩
  refine zm_ (fn:=Try.f120) 4 10 0 rfl rfl rfl rfl rfl u1_ rfl fun w0 M E hro=>?_
  repeat' (first|refine Ctl.h ?_ |((with_reducible intro hif);first |(focus (cases hif;done)) |((try simp only[JH]at hif);try exact hy_)) |((with_reducible first|apply J22 yu_ za_|apply J23 fol yu_ za_|apply J24);(·rfl);(· exact k17_);(try kernel_rfl);try exact z9_)|fail)
  apply At.endsPick [0,1,2,3] za_ (fn:=Try.f120) (rs:=[.tmp 2]) Anc.refl hro (lb_ rfl) rfl
  ·exact k5_
  ·exact yq_
  ·rfl
  ·rfl
  ·rfl
  ·exact k15_
  ·rfl
  ·exact k8_
  ·exact k9_
  ·exact fun β=>rfl
  ·exact k8_
 ·cases hF
theorem m_move:zh_ Try.prog 121 (mS (kF 4 false)):=mS_ok (by kernel_rfl) fun ar s v x cond val s' x' mv hF hc=>by
 unfold kF at hF
 split at hF
 ·cases hF
  obtain⟨ho,R,V,S⟩:=hc
  obtain⟨o0,o1,a0,a1,b0,b1,c0,c1,n0,n1⟩:=R.ok
  have ha:=R.a
  have hb:=R.b
  have hcc:=R.c
  have s0:=S.a0
  have s1:=S.a1
  have d0:=S.d0
  have d1:=S.d1
  have sc:=S.c1
  have sn:=S.n1
  have v0:=V.p0
  have v1:=V.p1
  have v2:=V.t0
  have v3:=V.t1
  have v4:=V.o0
  have v5:=V.l0
  have hE:doE s v x=0:=by simp[doE,ho]
  have hS:doS s v x=s.put x.a.toNat (s.regs x.b.toNat):=by simp[doS,hE,ho]
  rw[hE,hS]
  refine⟨fun _=>rfl,fun _=>trivial,fun _ _=>rfl,fun _ _ _=>trivial,?_⟩
  refine zm_ (fn:=Try.f121) 4 7 0 rfl rfl rfl rfl rfl u1_ rfl fun w0 M E hro=>?_
  repeat' (first|refine Ctl.h ?_ |((with_reducible intro hif);first |(focus (cases hif;done)) |((try simp only[JH]at hif);try exact hy_)) |((with_reducible first|apply J22 yu_ za_|apply J23 fol yu_ za_|apply J24);(·rfl);(· exact k17_);(try kernel_rfl);try exact z9_)|fail)
  apply At.endsPick [0,1,2,3] za_ (fn:=Try.f121) (rs:=[.tmp 2]) Anc.refl hro (lb_ rfl) rfl
  ·exact k5_
  ·exact yq_
  ·rfl
  ·rfl
  ·rfl
  ·exact k15_
  ·rfl
  ·exact k8_
  ·exact k9_
  ·exact fun β=>rfl
  ·exact k8_
 ·cases hF
theorem m_jump:zh_ Try.prog 126 (mS (kF 9 false)):=mS_ok (by kernel_rfl) fun ar s v x cond val s' x' mv hF hc=>by
 unfold kF at hF
 split at hF
 ·cases hF
  obtain⟨ho,R,V,S⟩:=hc
  obtain⟨o0,o1,a0,a1,b0,b1,c0,c1,n0,n1⟩:=R.ok
  have ha:=R.a
  have hb:=R.b
  have hcc:=R.c
  have s0:=S.a0
  have s1:=S.a1
  have d0:=S.d0
  have d1:=S.d1
  have sc:=S.c1
  have sn:=S.n1
  have v0:=V.p0
  have v1:=V.p1
  have v2:=V.t0
  have v3:=V.t1
  have v4:=V.o0
  have v5:=V.l0
  have hj:=R.jmp (.inl ho)
  have hE:doE s v x=0:=by simp[doE,ho]
  have hS:doS s v x={ s with at_:=x.n }:=by simp[doS,hE,ho]
  rw[hE,hS]
  refine⟨fun _=>rfl,fun _=>trivial,fun _ _=>rfl,fun _ _ _=>trivial,?_⟩
  refine zm_ (fn:=Try.f126) 4 5 0 rfl rfl rfl rfl rfl u1_ rfl fun w0 M E hro=>?_
  repeat' (first|refine Ctl.h ?_ |((with_reducible intro hif);first |(focus (cases hif;done)) |((try simp only[JH]at hif);try exact hy_)) |((with_reducible first|apply J22 yu_ za_|apply J23 fol yu_ za_|apply J24);(·rfl);(· exact k17_);(try kernel_rfl);try exact z9_)|fail)
  apply At.endsPick [0,1,2,3] za_ (fn:=Try.f126) (rs:=[.tmp 2]) Anc.refl hro (lb_ rfl) rfl
  ·exact k5_
  ·exact yq_
  ·rfl
  ·rfl
  ·rfl
  ·exact k15_
  ·rfl
  ·exact k8_
  ·exact k9_
  ·exact fun β=>rfl
  ·exact k8_
 ·cases hF
theorem m_jumpZero:zh_ Try.prog 127 (mS (kF 10 false)):=mS_ok (by kernel_rfl) fun ar s v x cond val s' x' mv hF hc=>by
 unfold kF at hF
 split at hF
 ·cases hF
  obtain⟨ho,R,V,S⟩:=hc
  obtain⟨o0,o1,a0,a1,b0,b1,c0,c1,n0,n1⟩:=R.ok
  have ha:=R.a
  have hb:=R.b
  have hcc:=R.c
  have s0:=S.a0
  have s1:=S.a1
  have d0:=S.d0
  have d1:=S.d1
  have sc:=S.c1
  have sn:=S.n1
  have v0:=V.p0
  have v1:=V.p1
  have v2:=V.t0
  have v3:=V.t1
  have v4:=V.o0
  have v5:=V.l0
  have hj:=R.jmp (.inr (.inl ho))
  have hE:doE s v x=0:=by simp[doE,ho]
  have hS:doS s v x={ s with at_:=if s.regs x.a.toNat=0 then x.n else s.at_+1 }:=by simp[doS,hE,ho]
  rw[hE,hS]
  refine⟨fun _=>rfl,fun _=>trivial,fun _ _=>rfl,fun _ _ _=>trivial,?_⟩
  refine zm_ (fn:=Try.f127) 4 8 0 rfl rfl rfl rfl rfl u1_ rfl fun w0 M E hro=>?_
  repeat' (first|refine Ctl.h ?_ |((with_reducible intro hif);first |(focus (cases hif;done)) |((try simp only[JH]at hif);try exact hy_)) |((with_reducible first|apply J22 yu_ za_|apply J23 fol yu_ za_|apply J24);(·rfl);(· exact k18_);(try kernel_rfl);try exact z9_)|fail)
  apply At.endsPick [0,1,2,3] za_ (fn:=Try.f127) (rs:=[.tmp 2]) Anc.refl hro (lb_ rfl) rfl
  ·exact k5_
  ·exact yq_
  ·rfl
  ·rfl
  ·rfl
  ·exact k15_
  ·rfl
  ·exact k8_
  ·exact k9_
  ·exact fun β=>rfl
  ·exact k8_
 ·cases hF
theorem m_jumpNeg:zh_ Try.prog 128 (mS (kF 11 false)):=mS_ok (by kernel_rfl) fun ar s v x cond val s' x' mv hF hc=>by
 unfold kF at hF
 split at hF
 ·cases hF
  obtain⟨ho,R,V,S⟩:=hc
  obtain⟨o0,o1,a0,a1,b0,b1,c0,c1,n0,n1⟩:=R.ok
  have ha:=R.a
  have hb:=R.b
  have hcc:=R.c
  have s0:=S.a0
  have s1:=S.a1
  have d0:=S.d0
  have d1:=S.d1
  have sc:=S.c1
  have sn:=S.n1
  have v0:=V.p0
  have v1:=V.p1
  have v2:=V.t0
  have v3:=V.t1
  have v4:=V.o0
  have v5:=V.l0
  have hj:=R.jmp (.inr (.inr ho))
  have hE:doE s v x=0:=by simp[doE,ho]
  have hS:doS s v x={ s with at_:=if s.regs x.a.toNat < 0 then x.n else s.at_+1 }:=by simp[doS,hE,ho]
  rw[hE,hS]
  refine⟨fun _=>rfl,fun _=>trivial,fun _ _=>rfl,fun _ _ _=>trivial,?_⟩
  refine zm_ (fn:=Try.f128) 4 8 0 rfl rfl rfl rfl rfl u1_ rfl fun w0 M E hro=>?_
  repeat' (first|refine Ctl.h ?_ |((with_reducible intro hif);first |(focus (cases hif;done)) |((try simp only[JH]at hif);try exact hy_)) |((with_reducible first|apply J22 yu_ za_|apply J23 fol yu_ za_|apply J24);(·rfl);(· exact k18_);(try kernel_rfl);try exact z9_)|fail)
  apply At.endsPick [0,1,2,3] za_ (fn:=Try.f128) (rs:=[.tmp 2]) Anc.refl hro (lb_ rfl) rfl
  ·exact k5_
  ·exact yq_
  ·rfl
  ·rfl
  ·rfl
  ·exact k15_
  ·rfl
  ·exact k8_
  ·exact k9_
  ·exact fun β=>rfl
  ·exact k8_
 ·cases hF
def cellB (s:Sta)(x:Ins):Bool:=decide (0≤s.regs x.b.toNat∧s.regs x.b.toNat < s.cells.length)
def cellF:MF:=fun ar s v x=>match ar with
 | []=>some (RI x∧SOk s,fun c=>bif cellB s x then .tup [.ptr c [.i (s.regs x.b.toNat).toNat 1],.int .i64 0] else .tup [.nilp,.int .i64 185],s,x,false)
 | _=>none
theorem cell_ok:zh_ Try.prog 135 (mS cellF):=mS_ok (by kernel_rfl) fun ar s v x cond val s' x' mv hF hc=>by
 unfold cellF at hF
 split at hF
 ·cases hF
  obtain⟨R,S⟩:=hc
  obtain⟨o0,o1,a0,a1,b0,b1,c0,c1,n0,n1⟩:=R.ok
  have hb:=R.b
  have sc:=S.c1
  have hsl:(s.cells.length:Int)≤1024:=by omega
  refine⟨fun _=>rfl,fun _=>trivial,fun ρ h0=>?_,fun h z1 z2=>?_,?_⟩
  ·cases cellB s x<;>simp[SV.ren,renL]
  ·cases cellB s x<;>simp[Stable,zd_,z1,z2]
  by_cases h1:s.regs x.b.toNat < 0
  ·have hcb:cellB s x=false:=by unfold cellB;simp;omega
   rw[hcb]
   refine zm_ (fn:=Try.f135) 4 26 0 rfl rfl rfl rfl rfl u1_ rfl fun w0 M E hro=>?_
   repeat' (first|refine Ctl.h ?_ |((with_reducible intro hif);first |(focus (cases hif;done)) |((try simp only[JH]at hif);try exact hy_)) |((with_reducible first|apply J22 yu_ za_|apply J23 fol yu_ za_|apply J24);(·rfl);(· (simp only[push_cast,↓JP,Nat.reduceAdd,Nat.reduceEqDiff,Nat.reduceLT,Nat.reduceMul,Nat.reduceLeDiff,reduceCtorEq,reduceIte,↓JK,cM1,sDraw,JE,Bool.cond_decide,h1];rfl));(try kernel_rfl);try exact z9_)|fail)
   apply At.endsPick [0,1,2,3] za_ (fn:=Try.f135) (rs:=[.tmp 2,.tmp 3]) Anc.refl hro (lb_ rfl) rfl
   ·exact k5_
   ·exact yq_
   ·rfl
   ·rfl
   ·rfl
   ·exact k15_
   ·rfl
   ·exact k8_
   ·exact k9_
   ·exact fun β=>rfl
   ·exact k8_
  by_cases h2:(s.cells.length:Int)≤s.regs x.b.toNat
  ·have hcb:cellB s x=false:=by unfold cellB;simp;omega
   rw[hcb]
   refine zm_ (fn:=Try.f135) 4 26 0 rfl rfl rfl rfl rfl u1_ rfl fun w0 M E hro=>?_
   repeat' (first|refine Ctl.h ?_ |((with_reducible intro hif);first |(focus (cases hif;done)) |((try simp only[JH]at hif);try exact hy_)) |((with_reducible first|apply J22 yu_ za_|apply J23 fol yu_ za_|apply J24);(·rfl);(· exact k19_);(try kernel_rfl);try exact z9_)|fail)
   apply At.endsPick [0,1,2,3] za_ (fn:=Try.f135) (rs:=[.tmp 2,.tmp 3]) Anc.refl hro (lb_ rfl) rfl
   ·exact k5_
   ·exact yq_
   ·rfl
   ·rfl
   ·rfl
   ·exact k15_
   ·rfl
   ·exact k8_
   ·exact k9_
   ·exact fun β=>rfl
   ·exact k8_
  ·have hcb:cellB s x=true:=by unfold cellB;simp;omega
   rw[hcb]
   have hr:(s.regs x.b.toNat).toNat < s.cells.length:=by omega
   refine zm_ (fn:=Try.f135) 4 26 0 rfl rfl rfl rfl rfl u1_ rfl fun w0 M E hro=>?_
   repeat' (first|refine Ctl.h ?_ |((with_reducible intro hif);first |(focus (cases hif;done)) |((try simp only[JH]at hif);try exact hy_)) |((with_reducible first|apply J22 yu_ za_|apply J23 fol yu_ za_|apply J24);(·rfl);(· exact k19_);(try kernel_rfl);try exact z9_)|fail)
   apply At.endsPick [0,1,2,3] za_ (fn:=Try.f135) (rs:=[.tmp 2,.tmp 3]) Anc.refl hro (lb_ rfl) rfl
   ·exact k5_
   ·exact yq_
   ·rfl
   ·rfl
   ·rfl
   ·exact k15_
   ·rfl
   ·exact k8_
   ·exact k9_
   ·exact fun β=>rfl
   ·exact k8_
 ·cases hF
def wFm:MF:=fun ar s v x=>match ar with
 | []=>some (32 < x.op∧RI x∧VOk v∧SOk s,fun _=>.int .i64 (doE s v x),doS s v x,x,false)
 | _=>none
theorem m_word:zh_ Try.prog 129 (mS wFm):=mS_ok (by kernel_rfl) fun ar s v x cond val s' x' mv hF hc=>by
 unfold wFm at hF
 split at hF
 ·cases hF
  obtain⟨ho,R,V,S⟩:=hc
  obtain⟨o0,o1,a0,a1,b0,b1,c0,c1,n0,n1⟩:=R.ok
  have ha:=R.a
  have hb:=R.b
  have hcc:=R.c
  have s0:=S.a0
  have s1:=S.a1
  have d0:=S.d0
  have d1:=S.d1
  have sc:=S.c1
  have sn:=S.n1
  have v0:=V.p0
  have v1:=V.p1
  have v2:=V.t0
  have v3:=V.t1
  have v4:=V.o0
  have v5:=V.l0
  have hop:x.op - 32≤255:=by omega
  have hE:doE s v x=xg_ (x.op - 32) (s.regs x.c.toNat):=by
   have h32:¬x.op < 32:=by omega
   simp[doE,show ¬x.op=2 by omega,show ¬x.op=5 by omega,show ¬x.op=6 by omega,show ¬x.op=7 by omega,show ¬x.op=8 by omega,h32]
  by_cases hw:xg_ (x.op - 32) (s.regs x.c.toNat)=0
  ·have hS:doS s v x=s.put x.a.toNat (applyV (x.op - 32) (s.regs x.b.toNat) (s.regs x.c.toNat)):=by
    unfold doS
    rw[hE,hw]
    simp[show ¬x.op=1 by omega,show ¬x.op=3 by omega,show ¬x.op=4 by omega,show ¬x.op=5 by omega,show ¬x.op=6 by omega,show ¬x.op=7 by omega,show ¬x.op=8 by omega,show ¬x.op=9 by omega,show ¬x.op=10 by omega,show ¬x.op=11 by omega]
   rw[hE,hw,hS]
   refine⟨fun _=>rfl,fun _=>trivial,fun _ _=>rfl,fun _ _ _=>trivial,?_⟩
   refine zm_ (fn:=Try.f129) 4 25 0 rfl rfl rfl rfl rfl u1_ rfl fun w0 M E hro=>?_
   repeat' (first|refine Ctl.h ?_ |((with_reducible intro hif);first |(focus (cases hif;done)) |((try simp only[JH]at hif);try exact hy_)) |((with_reducible first|apply J22 yu_ za_|apply J23 fol yu_ za_|apply J24);(·rfl);(· exact k20_);(try kernel_rfl);try exact z9_)|fail)
   apply At.endsPick [0,1,2,3] za_ (fn:=Try.f129) (rs:=[.tmp 2]) Anc.refl hro (lb_ rfl) rfl
   ·exact k5_
   ·exact yq_
   ·rfl
   ·rfl
   ·rfl
   ·exact k15_
   ·rfl
   ·exact k8_
   ·exact k9_
   ·exact fun β=>rfl
   ·exact k8_
  ·have hS:doS s v x=s:=doS_bad (by rw[hE];exact hw)
   rw[hE,hS]
   refine⟨fun _=>rfl,fun _=>trivial,fun _ _=>rfl,fun _ _ _=>trivial,?_⟩
   refine zm_ (fn:=Try.f129) 4 25 0 rfl rfl rfl rfl rfl u1_ rfl fun w0 M E hro=>?_
   repeat' (first|refine Ctl.h ?_ |((with_reducible intro hif);first |(focus (cases hif;done)) |((try simp only[JH]at hif);try exact hy_)) |((with_reducible first|apply J22 yu_ za_|apply J23 fol yu_ za_|apply J24);(·rfl);(· exact k20_);(try kernel_rfl);try exact z9_)|fail)
   apply At.endsPick [0,1,2,3] za_ (fn:=Try.f129) (rs:=[.tmp 2]) Anc.refl hro (lb_ rfl) rfl
   ·exact k5_
   ·exact yq_
   ·rfl
   ·rfl
   ·rfl
   ·exact k15_
   ·rfl
   ·exact k8_
   ·exact k9_
   ·exact fun β=>rfl
   ·exact k8_
 ·cases hF
-- ----------------------------------------
theorem m_draw:zh_ Try.prog 124 (mS (kF 7 false)):=mS_ok (by kernel_rfl) fun ar s v x cond val s' x' mv hF hc=>by
 unfold kF at hF
 split at hF
 ·cases hF
  obtain⟨ho,R,V,S⟩:=hc
  obtain⟨o0,o1,a0,a1,b0,b1,c0,c1,n0,n1⟩:=R.ok
  have ha:=R.a
  have hb:=R.b
  have hcc:=R.c
  have s0:=S.a0
  have s1:=S.a1
  have d0:=S.d0
  have d1:=S.d1
  have sc:=S.c1
  have sn:=S.n1
  have v0:=V.p0
  have v1:=V.p1
  have v2:=V.t0
  have v3:=V.t1
  have v4:=V.o0
  have v5:=V.l0
  by_cases q0:s.regs x.b.toNat < 1
  ·have hE:doE s v x=186:=by simp[doE,sendE,ho,q0]
   have hS:doS s v x=s:=doS_bad (by rw[hE];decide)
   rw[hE,hS]
   refine⟨fun _=>rfl,fun _=>trivial,fun _ _=>rfl,fun _ _ _=>trivial,?_⟩
   refine zm_ (fn:=Try.f124) 4 49 0 rfl rfl rfl rfl rfl u1_ rfl fun w0 M E hro=>?_
   repeat' (first|refine Ctl.h ?_ |((with_reducible intro hif);first |(focus (cases hif;done)) |((try simp only[JH]at hif);try exact hy_)) |((with_reducible first|apply J22 yu_ za_|apply J23 fol yu_ za_|apply J24);(·rfl);(· (simp only[push_cast,↓JP,Nat.reduceAdd,Nat.reduceEqDiff,Nat.reduceLT,Nat.reduceMul,Nat.reduceLeDiff,reduceCtorEq,reduceIte,↓JK,cM1,sDraw,JE,Bool.cond_decide,q0];rfl));(try kernel_rfl);try exact z9_)|fail)
   apply At.endsPick [0,1,2,3] za_ (fn:=Try.f124) (rs:=[.tmp 2]) Anc.refl hro (lb_ rfl) rfl
   ·exact k5_
   ·exact yq_
   ·rfl
   ·rfl
   ·rfl
   ·exact k15_
   ·rfl
   ·exact k8_
   ·exact k9_
   ·exact fun β=>rfl
   ·exact k8_
  by_cases q1:s.draws=1099511627776
  ·have hE:doE s v x=187:=by simp[doE,sendE,ho,q0,q1]
   have hS:doS s v x=s:=doS_bad (by rw[hE];decide)
   rw[hE,hS]
   refine⟨fun _=>rfl,fun _=>trivial,fun _ _=>rfl,fun _ _ _=>trivial,?_⟩
   refine zm_ (fn:=Try.f124) 4 49 0 rfl rfl rfl rfl rfl u1_ rfl fun w0 M E hro=>?_
   repeat' (first|refine Ctl.h ?_ |((with_reducible intro hif);first |(focus (cases hif;done)) |((try simp only[JH]at hif);try exact hy_)) |((with_reducible first|apply J22 yu_ za_|apply J23 fol yu_ za_|apply J24);(·rfl);(· exact k21_);(try kernel_rfl);try exact z9_)|fail)
   apply At.endsPick [0,1,2,3] za_ (fn:=Try.f124) (rs:=[.tmp 2]) Anc.refl hro (lb_ rfl) rfl
   ·exact k5_
   ·exact yq_
   ·rfl
   ·rfl
   ·rfl
   ·exact k15_
   ·rfl
   ·exact k8_
   ·exact k9_
   ·exact fun β=>rfl
   ·exact k8_
  have hE:doE s v x=0:=by simp[doE,sendE,ho,q0,q1]
  have hS:doS s v x={ s.put x.a.toNat (drawI v.seed v.process s.draws (s.regs x.b.toNat))with draws:=s.draws+1 }:=by simp[doS,hE,ho]
  rw[hE,hS]
  refine⟨fun _=>rfl,fun _=>trivial,fun _ _=>rfl,fun _ _ _=>trivial,?_⟩
  refine zm_ (fn:=Try.f124) 4 49 0 rfl rfl rfl rfl rfl u1_ rfl fun w0 M E hro=>?_
  repeat' (first|refine Ctl.h ?_ |((with_reducible intro hif);first |(focus (cases hif;done)) |((try simp only[JH]at hif);try exact hy_)) |((with_reducible first|apply J22 yu_ za_|apply J23 fol yu_ za_|apply J24);(·rfl);(· exact k21_);(try kernel_rfl);try exact z9_)|fail)
  apply At.endsPick [0,1,2,3] za_ (fn:=Try.f124) (rs:=[.tmp 2]) Anc.refl hro (lb_ rfl) rfl
  ·exact k5_
  ·exact yq_
  ·rfl
  ·rfl
  ·rfl
  ·exact k15_
  ·rfl
  ·exact k8_
  ·exact k9_
  ·exact fun β=>rfl
  ·exact k8_
 ·cases hF
def cM2:FuncId→Option yr_:=xb_ [(136,rS aF),(134,rS bF),(133,mS putF),(135,mS cellF)]
theorem cM2_ok:∀f S,cM2 f=some S→zh_ Try.prog f S:=zn_ ⟨a_ok,b_ok,put_ok,cell_ok,trivial⟩
theorem m_load:zh_ Try.prog 122 (mS (kF 5 false)):=mS_ok (by kernel_rfl) fun ar s v x cond val s' x' mv hF hc=>by
 unfold kF at hF
 split at hF
 ·cases hF
  obtain⟨ho,R,V,S⟩:=hc
  obtain⟨o0,o1,a0,a1,b0,b1,c0,c1,n0,n1⟩:=R.ok
  have ha:=R.a
  have hb:=R.b
  have hcc:=R.c
  have s0:=S.a0
  have s1:=S.a1
  have d0:=S.d0
  have d1:=S.d1
  have sc:=S.c1
  have sn:=S.n1
  have v0:=V.p0
  have v1:=V.p1
  have v2:=V.t0
  have v3:=V.t1
  have v4:=V.o0
  have v5:=V.l0
  by_cases h1:s.regs x.b.toNat < 0∨(s.cells.length:Int)≤s.regs x.b.toNat
  ·have hcb:cellB s x=false:=by unfold cellB;simp;omega
   have hE:doE s v x=185:=by simp[doE,ho,h1]
   have hS:doS s v x=s:=doS_bad (by rw[hE];decide)
   rw[hE,hS]
   refine⟨fun _=>rfl,fun _=>trivial,fun _ _=>rfl,fun _ _ _=>trivial,?_⟩
   refine zm_ (fn:=Try.f122) 4 18 0 rfl rfl rfl rfl rfl u1_ rfl fun w0 M E hro=>?_
   repeat' (first|refine Ctl.h ?_ |((with_reducible intro hif);first |(focus (cases hif;done)) |((try simp only[JH]at hif);try exact hy_)) |((with_reducible first|apply J22 cM2_ok za_|apply J23 fol cM2_ok za_|apply J24);(·rfl);(· exact k23_);(try kernel_rfl);try exact k22_)|fail)
   apply At.endsPick [0,1,2,3] za_ (fn:=Try.f122) (rs:=[.tmp 2]) Anc.refl hro (lb_ rfl) rfl
   ·exact k5_
   ·exact yq_
   ·rfl
   ·rfl
   ·rfl
   ·exact k15_
   ·rfl
   ·exact k8_
   ·exact k9_
   ·exact fun β=>rfl
   ·exact k8_
  ·have hcb:cellB s x=true:=by unfold cellB;simp;omega
   have hr:(s.regs x.b.toNat).toNat < s.cells.length:=by omega
   have hE:doE s v x=0:=by simp[doE,ho,h1]
   have hS:doS s v x=s.put x.a.toNat (s.cells.getD (s.regs x.b.toNat).toNat 0):=by simp[doS,hE,ho]
   rw[hE,hS]
   refine⟨fun _=>rfl,fun _=>trivial,fun _ _=>rfl,fun _ _ _=>trivial,?_⟩
   refine zm_ (fn:=Try.f122) 4 18 0 rfl rfl rfl rfl rfl u1_ rfl fun w0 M E hro=>?_
   repeat' (first|refine Ctl.h ?_ |((with_reducible intro hif);first |(focus (cases hif;done)) |((try simp only[JH]at hif);try exact hy_)) |((with_reducible first|apply J22 cM2_ok za_|apply J23 fol cM2_ok za_|apply J24);(·rfl);(· exact k23_);(try kernel_rfl);try exact k22_)|fail)
   apply At.endsPick [0,1,2,3] za_ (fn:=Try.f122) (rs:=[.tmp 2]) Anc.refl hro (lb_ rfl) rfl
   ·exact k5_
   ·exact yq_
   ·rfl
   ·rfl
   ·rfl
   ·exact k15_
   ·rfl
   ·exact k8_
   ·exact k9_
   ·exact fun β=>rfl
   ·exact k8_
 ·cases hF
theorem m_store:zh_ Try.prog 123 (mS (kF 6 false)):=mS_ok (by kernel_rfl) fun ar s v x cond val s' x' mv hF hc=>by
 unfold kF at hF
 split at hF
 ·cases hF
  obtain⟨ho,R,V,S⟩:=hc
  obtain⟨o0,o1,a0,a1,b0,b1,c0,c1,n0,n1⟩:=R.ok
  have ha:=R.a
  have hb:=R.b
  have hcc:=R.c
  have s0:=S.a0
  have s1:=S.a1
  have d0:=S.d0
  have d1:=S.d1
  have sc:=S.c1
  have sn:=S.n1
  have v0:=V.p0
  have v1:=V.p1
  have v2:=V.t0
  have v3:=V.t1
  have v4:=V.o0
  have v5:=V.l0
  by_cases h1:s.regs x.b.toNat < 0∨(s.cells.length:Int)≤s.regs x.b.toNat
  ·have hcb:cellB s x=false:=by unfold cellB;simp;omega
   have hE:doE s v x=185:=by simp[doE,ho,h1]
   have hS:doS s v x=s:=doS_bad (by rw[hE];decide)
   rw[hE,hS]
   refine⟨fun _=>rfl,fun _=>trivial,fun _ _=>rfl,fun _ _ _=>trivial,?_⟩
   refine zm_ (fn:=Try.f123) 4 26 0 rfl rfl rfl rfl rfl u1_ rfl fun w0 M E hro=>?_
   repeat' (first|refine Ctl.h ?_ |((with_reducible intro hif);first |(focus (cases hif;done)) |((try simp only[JH]at hif);try exact hy_)) |((with_reducible first|apply J22 cM2_ok za_|apply J23 fol cM2_ok za_|apply J24);(·rfl);(· exact k23_);(try kernel_rfl);try exact k22_)|fail)
   apply At.endsPick [0,1,2,3] za_ (fn:=Try.f123) (rs:=[.tmp 2]) Anc.refl hro (lb_ rfl) rfl
   ·exact k5_
   ·exact yq_
   ·rfl
   ·rfl
   ·rfl
   ·exact k15_
   ·rfl
   ·exact k8_
   ·exact k9_
   ·exact fun β=>rfl
   ·exact k8_
  ·have hcb:cellB s x=true:=by unfold cellB;simp;omega
   have hr:(s.regs x.b.toNat).toNat < s.cells.length:=by omega
   have hE:doE s v x=0:=by simp[doE,ho,h1]
   have hS:doS s v x={ s with cells:=s.cells.set (s.regs x.b.toNat).toNat (s.regs x.a.toNat),at_:=s.at_+1 }:=by simp[doS,hE,ho]
   rw[hE,hS]
   refine⟨fun _=>rfl,fun _=>trivial,fun _ _=>rfl,fun _ _ _=>trivial,?_⟩
   refine zm_ (fn:=Try.f123) 4 26 0 rfl rfl rfl rfl rfl u1_ rfl fun w0 M E hro=>?_
   repeat' (first|refine Ctl.h ?_ |((with_reducible intro hif);first |(focus (cases hif;done)) |((try simp only[JH]at hif);try exact hy_)) |((with_reducible first|apply J22 cM2_ok za_|apply J23 fol cM2_ok za_|apply J24);(·rfl);(· exact k23_);(try kernel_rfl);try exact k22_)|fail)
   apply At.endsPick [0,1,2,3] za_ (fn:=Try.f123) (rs:=[.tmp 2]) Anc.refl hro (lb_ rfl) rfl
   ·exact k5_
   ·exact yq_
   ·rfl
   ·rfl
   ·rfl
   ·exact k15_
   ·rfl
   ·exact k8_
   ·exact k9_
   ·exact fun β=>rfl
   ·exact k8_
 ·cases hF
end Go.Proofs.Ytjliakjbdcplcaa.Vm
end

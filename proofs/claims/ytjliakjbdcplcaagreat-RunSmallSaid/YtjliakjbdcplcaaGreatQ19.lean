import Derived.Test.YtjliakjbdcplcaaGreatQ1
import Derived.Test.YtjliakjbdcplcaaGreatQ18
set_option linter.unusedSimpArgs false
set_option linter.unusedVariables false
set_option maxRecDepth 100000
set_option maxHeartbeats 4000000
section
namespace Go.Proofs.YtjliakjbdcplcaaGreat.Vm
open Go.RowKit
attribute [local push_cast] prS zo_ zp_ xt_ y8_ y7_ y6_ y5_ y4_ xs_ y3_ y2_ y1_ zn_ z2_ z4_ z1_ zu_ zt_ iOf JM rS mS macP aF bF cF putF jumpIfF sApply inR inN
def sDraw:yn_:=fun args h m=>match args with
 | [v1,v2,v3,v4]=>bif isI .u64 v1 && isI .i64 v2 && isI .i64 v3 && isI .i64 v4 then some ((0≤(iOf v2))∧((iOf v2)≤65536)∧(0≤(iOf v3))∧((iOf v3)≤281474976710656)∧(1≤(iOf v4)),.tup [.int .i64 (drawI (iOf v1) (iOf v2) (iOf v3) (iOf v4)),.int .i64 0],[],[])else none
 | _=>none
theorem sDraw_ok:zi_ Tryz.prog 178 sDraw:=by
 refine⟨zg_ (by kernel_rfl),fun args h m c v rd wr hs hm hc w0 M β h' w R hrd hwr hst=>?_⟩
 unfold sDraw at hs
 split at hs
 ·rename_i v1 v2 v3 v4
  obtain⟨hb,hs⟩:=zl_ hs
  simp only[Option.some.injEq,Prod.mk.injEq]at hs
  obtain⟨rfl,rfl,rfl,rfl⟩:=hs
  simp only[Bool.and_eq_true]at hb
  obtain⟨⟨⟨b1,b2⟩,b3⟩,b4⟩:=hb
  obtain⟨y1,y2,y3,y4,y5⟩:=hc
  simp only[denL,yb_,ya_,z9_,zx_,zd_ b1,zd_ b2,zd_ b3,zd_ b4]
  exact(draw_ok (iOf v1) (iOf v2) (iOf v3) (iOf v4) w y1 y2 y3 y4 y5).mono fun e w' he=>post_read R (by(repeat' (first|exact trivial|exact rfl|assumption|apply zc_.ite|apply And.intro|intro _ |(simp only[zc_,ze_,zp_,prS,yu_,zo_,sndS,stS,evS,macS];done)))) rfl he.1 he.2
 ·cases hs
theorem less_mac {σ : Nat→Nat}{c k c' k':Nat}(s':Sta)(v:Evi)(x:Ins)(hc:σ c=c')(hk:σ k=k'){a d:Int}{e:Bool}{n1 n2:Nat}{rg:Nat→SV}(h1:a=s'.at_)(h2:e=s'.ended)(h3:∀q,q < 8→∀β,(rg q).cl β = [.int .i64 (s'.regs q)])(h4:n1=s'.cells.length)(h5:d=s'.draws)(h6:n2=s'.sends.length) :
  Less (.own 186 (.agg [.agg [.int .i64 a,.bool e,.arr 8 1 rg,.sl c' c' [] 1 0 n1 none,.int .i64 d,.sl k' k' [] 3 0 n2 none],.agg [.int .u64 v.seed,.int .i64 v.process,.int .i64 v.ports,.int .i64 v.look,.int .i64 v.now],yu_ x]) true) ((mB s' v x c k).ren σ):=by
 subst h1 h2 h4 h5 h6 hc hk
 rw[mB_ren]
 refine .val (fun β=>?_) (fun n k f e=>by cases e) (fun n k f e=>by cases e)
 have h8:(SV.arr 8 1 rg).cl β =(SV.arr 8 1 fun q=>.int .i64 (s'.regs q)).cl β:=arrCl fun q hq=>by rw[h3 q hq β];rfl
 simp only[macS,stS,evS,cl_agg,clL_cons,clL_nil,h8]
theorem less_set {t:Nat}{σ : Nat→Nat}(l:List Int)(r:Nat)(a:Int){n:Nat}(hn:n=l.length){g:Nat→SV}(hg:∀q,q < l.length→∀β,(g q).cl β = [.int .i64 (if q=r then a else l.getD q 0)]):Less (.own t (.arr n 1 g) false) ((HB.own t (.arr (l.set r a).length 1 (zp_ (l.set r a))) false).ren σ):=by
 subst hn
 have e:(l.set r a).length=l.length:=by simp
 rw[e]
 refine .val (fun β=>arrCl fun q hq=>?_) (fun n1 k1 f1 e=>by injection e with e1 e2 e3;subst e1 e2;exact⟨_,rfl⟩) (fun n1 k1 f1 e=>by injection e with e1 e2 e3;subst e1 e2;exact⟨_,rfl⟩)
 rw[hg q hq β]
 show _=[Value.int .i64 ((l.set r a).getD q 0)]
 congr 2
 rw[List.getD_eq_getElem?_getD,List.getD_eq_getElem?_getD,List.getElem?_set]
 by_cases h:q=r
 ·subst h;simp[hq]
 ·rw[if_neg h,if_neg (fun e=>h e.symm)]
theorem less_snd {t:Nat}{σ : Nat→Nat}(l:List Snd)(y:Snd){n:Nat}(hn:n=l.length+1){g:Nat→SV}(hg:∀q,q < l.length+1→∀β,(g q).cl β =((l++[y]).getD q ⟨0,0,0⟩).cells):Less (.own t (.arr n 3 g) false) ((HB.own t (.arr (l++[y]).length 3 (zo_ (l++[y]))) false).ren σ):=by
 subst hn
 have e:(l++[y]).length=l.length+1:=by simp
 have e2:(fun q=>(zo_ (l++[y]) q).ren σ)=zo_ (l++[y]):=by
  funext q;unfold zo_;simp only[sndS,SV.ren,renL]
 simp only[HB.ren,SV.ren,e2,e]
 refine .val (fun β=>arrCl fun q hq=>?_) (fun n1 k1 f1 e=>by injection e with e1 e2 e3;subst e1 e2;exact⟨_,rfl⟩) (fun n1 k1 f1 e=>by injection e with e1 e2 e3;subst e1 e2;exact⟨_,rfl⟩)
 rw[hg q hq β]
 unfold zo_
 rw[isSnd_cl (z4_ _),z1_]
set_option linter.defProp false in
def JE:=And.intro @wc_ (And.intro @evi_eta (And.intro @xu_ (And.intro @xj_ (And.intro @ls_i64S2 (And.intro @ls_sndsS (And.intro @ls_sndsS' (And.intro @ls_sndsS2 (And.intro @ls_prS (And.intro @ls_prS' @ls_prS2)))))))))
def kF (k:Int)(mv:Bool):MF:=fun ar s v x=>match ar with
 | []=>some (x.op=k∧RI x∧VOk v∧SOk s,fun _=>.int .i64 (doE s v x),doS s v x,x,mv)
 | _=>none
def cM1:FuncId→Option yn_:=y9_ [(177,rS aF),(175,rS bF),(181,rS cF),(174,mS putF),(179,mS jumpIfF),(180,sApply),(178,sDraw)]
theorem xi_:∀f S,cM1 f=some S→zi_ Tryz.prog f S:=zr_ ⟨a_ok,b_ok,c_ok,put_ok,jumpIf_ok,sApply_ok,sDraw_ok,trivial⟩
theorem m_fail:zi_ Tryz.prog 163 (mS (kF 2 false)):=mS_ok (by kernel_rfl) fun ar s v x cond val s' x' mv hF hc=>by
 unfold kF at hF
 split at hF
 ·cases hF
  obtain⟨ho,R,V,S⟩:=hc
  obtain⟨o0,o1,a0,a1,b0,b1,c0,c1,n0,n1⟩:=R.ok
  have ha:=R.a
  have hb:=R.b
  have hcc:=R.c
  have s0:=S.a0
  have s1:=S.a1
  have d0:=S.d0
  have d1:=S.d1
  have sc:=S.c1
  have sn:=S.n1
  have v0:=V.p0
  have v1:=V.p1
  have v2:=V.t0
  have v3:=V.t1
  have v4:=V.o0
  have v5:=V.l0
  have hE:doE s v x=184:=by simp[doE,ho]
  have hS:doS s v x=s:=doS_bad (by rw[hE];decide)
  rw[hE,hS]
  refine⟨fun _=>rfl,fun _=>trivial,fun _ _=>rfl,fun _ _ _=>trivial,?_⟩
  refine zf_ (fn:=Tryz.f163) 4 3 0 rfl rfl rfl rfl rfl u12_ rfl fun w0 M E hro=>?_
  repeat' (first|refine Ctl.h ?_ |((with_reducible intro hif);first |(focus (cases hif;done)) |((try simp only[JH]at hif);try exact hy_)) |((with_reducible first|apply J22 xi_ za_|apply J23 fol xi_ za_|apply J24);(·rfl);(· exact k85_);(try kernel_rfl);try exact yr_)|fail)
  apply At.endsPick [0,1,2,3] za_ (fn:=Tryz.f163) (rs:=[.tmp 2]) Anc.refl hro (lb_ rfl) rfl
  ·exact yl_
  ·exact xz_
  ·rfl
  ·rfl
  ·rfl
  ·exact k83_
  ·rfl
  ·exact xg_
  ·exact k9_
  ·exact fun β=>rfl
  ·exact xg_
 ·cases hF
theorem m_halt:zi_ Tryz.prog 162 (mS (kF 1 false)):=mS_ok (by kernel_rfl) fun ar s v x cond val s' x' mv hF hc=>by
 unfold kF at hF
 split at hF
 ·cases hF
  obtain⟨ho,R,V,S⟩:=hc
  obtain⟨o0,o1,a0,a1,b0,b1,c0,c1,n0,n1⟩:=R.ok
  have ha:=R.a
  have hb:=R.b
  have hcc:=R.c
  have s0:=S.a0
  have s1:=S.a1
  have d0:=S.d0
  have d1:=S.d1
  have sc:=S.c1
  have sn:=S.n1
  have v0:=V.p0
  have v1:=V.p1
  have v2:=V.t0
  have v3:=V.t1
  have v4:=V.o0
  have v5:=V.l0
  have hE:doE s v x=0:=by simp[doE,ho]
  have hS:doS s v x={ s with ended:=true }:=by simp[doS,hE,ho]
  rw[hE,hS]
  refine⟨fun _=>rfl,fun _=>trivial,fun _ _=>rfl,fun _ _ _=>trivial,?_⟩
  refine zf_ (fn:=Tryz.f162) 4 7 0 rfl rfl rfl rfl rfl u12_ rfl fun w0 M E hro=>?_
  repeat' (first|refine Ctl.h ?_ |((with_reducible intro hif);first |(focus (cases hif;done)) |((try simp only[JH]at hif);try exact hy_)) |((with_reducible first|apply J22 xi_ za_|apply J23 fol xi_ za_|apply J24);(·rfl);(· exact k85_);(try kernel_rfl);try exact yr_)|fail)
  apply At.endsPick [0,1,2,3] za_ (fn:=Tryz.f162) (rs:=[.tmp 2]) Anc.refl hro (lb_ rfl) rfl
  ·exact yl_
  ·exact xz_
  ·rfl
  ·rfl
  ·rfl
  ·exact k83_
  ·rfl
  ·exact xg_
  ·exact k9_
  ·exact fun β=>rfl
  ·exact xg_
 ·cases hF
theorem m_set:zi_ Tryz.prog 164 (mS (kF 3 false)):=mS_ok (by kernel_rfl) fun ar s v x cond val s' x' mv hF hc=>by
 unfold kF at hF
 split at hF
 ·cases hF
  obtain⟨ho,R,V,S⟩:=hc
  obtain⟨o0,o1,a0,a1,b0,b1,c0,c1,n0,n1⟩:=R.ok
  have ha:=R.a
  have hb:=R.b
  have hcc:=R.c
  have s0:=S.a0
  have s1:=S.a1
  have d0:=S.d0
  have d1:=S.d1
  have sc:=S.c1
  have sn:=S.n1
  have v0:=V.p0
  have v1:=V.p1
  have v2:=V.t0
  have v3:=V.t1
  have v4:=V.o0
  have v5:=V.l0
  have hE:doE s v x=0:=by simp[doE,ho]
  have hS:doS s v x=s.put x.a.toNat x.n:=by simp[doS,hE,ho]
  rw[hE,hS]
  refine⟨fun _=>rfl,fun _=>trivial,fun _ _=>rfl,fun _ _ _=>trivial,?_⟩
  refine zf_ (fn:=Tryz.f164) 4 10 0 rfl rfl rfl rfl rfl u12_ rfl fun w0 M E hro=>?_
  repeat' (first|refine Ctl.h ?_ |((with_reducible intro hif);first |(focus (cases hif;done)) |((try simp only[JH]at hif);try exact hy_)) |((with_reducible first|apply J22 xi_ za_|apply J23 fol xi_ za_|apply J24);(·rfl);(· exact k85_);(try kernel_rfl);try exact yr_)|fail)
  apply At.endsPick [0,1,2,3] za_ (fn:=Tryz.f164) (rs:=[.tmp 2]) Anc.refl hro (lb_ rfl) rfl
  ·exact yl_
  ·exact xz_
  ·rfl
  ·rfl
  ·rfl
  ·exact k83_
  ·rfl
  ·exact xg_
  ·exact k9_
  ·exact fun β=>rfl
  ·exact xg_
 ·cases hF
theorem m_move:zi_ Tryz.prog 165 (mS (kF 4 false)):=mS_ok (by kernel_rfl) fun ar s v x cond val s' x' mv hF hc=>by
 unfold kF at hF
 split at hF
 ·cases hF
  obtain⟨ho,R,V,S⟩:=hc
  obtain⟨o0,o1,a0,a1,b0,b1,c0,c1,n0,n1⟩:=R.ok
  have ha:=R.a
  have hb:=R.b
  have hcc:=R.c
  have s0:=S.a0
  have s1:=S.a1
  have d0:=S.d0
  have d1:=S.d1
  have sc:=S.c1
  have sn:=S.n1
  have v0:=V.p0
  have v1:=V.p1
  have v2:=V.t0
  have v3:=V.t1
  have v4:=V.o0
  have v5:=V.l0
  have hE:doE s v x=0:=by simp[doE,ho]
  have hS:doS s v x=s.put x.a.toNat (s.regs x.b.toNat):=by simp[doS,hE,ho]
  rw[hE,hS]
  refine⟨fun _=>rfl,fun _=>trivial,fun _ _=>rfl,fun _ _ _=>trivial,?_⟩
  refine zf_ (fn:=Tryz.f165) 4 7 0 rfl rfl rfl rfl rfl u12_ rfl fun w0 M E hro=>?_
  repeat' (first|refine Ctl.h ?_ |((with_reducible intro hif);first |(focus (cases hif;done)) |((try simp only[JH]at hif);try exact hy_)) |((with_reducible first|apply J22 xi_ za_|apply J23 fol xi_ za_|apply J24);(·rfl);(· exact k85_);(try kernel_rfl);try exact yr_)|fail)
  apply At.endsPick [0,1,2,3] za_ (fn:=Tryz.f165) (rs:=[.tmp 2]) Anc.refl hro (lb_ rfl) rfl
  ·exact yl_
  ·exact xz_
  ·rfl
  ·rfl
  ·rfl
  ·exact k83_
  ·rfl
  ·exact xg_
  ·exact k9_
  ·exact fun β=>rfl
  ·exact xg_
 ·cases hF
theorem m_jump:zi_ Tryz.prog 170 (mS (kF 9 false)):=mS_ok (by kernel_rfl) fun ar s v x cond val s' x' mv hF hc=>by
 unfold kF at hF
 split at hF
 ·cases hF
  obtain⟨ho,R,V,S⟩:=hc
  obtain⟨o0,o1,a0,a1,b0,b1,c0,c1,n0,n1⟩:=R.ok
  have ha:=R.a
  have hb:=R.b
  have hcc:=R.c
  have s0:=S.a0
  have s1:=S.a1
  have d0:=S.d0
  have d1:=S.d1
  have sc:=S.c1
  have sn:=S.n1
  have v0:=V.p0
  have v1:=V.p1
  have v2:=V.t0
  have v3:=V.t1
  have v4:=V.o0
  have v5:=V.l0
  have hj:=R.jmp (.inl ho)
  have hE:doE s v x=0:=by simp[doE,ho]
  have hS:doS s v x={ s with at_:=x.n }:=by simp[doS,hE,ho]
  rw[hE,hS]
  refine⟨fun _=>rfl,fun _=>trivial,fun _ _=>rfl,fun _ _ _=>trivial,?_⟩
  refine zf_ (fn:=Tryz.f170) 4 5 0 rfl rfl rfl rfl rfl u12_ rfl fun w0 M E hro=>?_
  repeat' (first|refine Ctl.h ?_ |((with_reducible intro hif);first |(focus (cases hif;done)) |((try simp only[JH]at hif);try exact hy_)) |((with_reducible first|apply J22 xi_ za_|apply J23 fol xi_ za_|apply J24);(·rfl);(· exact k85_);(try kernel_rfl);try exact yr_)|fail)
  apply At.endsPick [0,1,2,3] za_ (fn:=Tryz.f170) (rs:=[.tmp 2]) Anc.refl hro (lb_ rfl) rfl
  ·exact yl_
  ·exact xz_
  ·rfl
  ·rfl
  ·rfl
  ·exact k83_
  ·rfl
  ·exact xg_
  ·exact k9_
  ·exact fun β=>rfl
  ·exact xg_
 ·cases hF
theorem m_jumpZero:zi_ Tryz.prog 171 (mS (kF 10 false)):=mS_ok (by kernel_rfl) fun ar s v x cond val s' x' mv hF hc=>by
 unfold kF at hF
 split at hF
 ·cases hF
  obtain⟨ho,R,V,S⟩:=hc
  obtain⟨o0,o1,a0,a1,b0,b1,c0,c1,n0,n1⟩:=R.ok
  have ha:=R.a
  have hb:=R.b
  have hcc:=R.c
  have s0:=S.a0
  have s1:=S.a1
  have d0:=S.d0
  have d1:=S.d1
  have sc:=S.c1
  have sn:=S.n1
  have v0:=V.p0
  have v1:=V.p1
  have v2:=V.t0
  have v3:=V.t1
  have v4:=V.o0
  have v5:=V.l0
  have hj:=R.jmp (.inr (.inl ho))
  have hE:doE s v x=0:=by simp[doE,ho]
  have hS:doS s v x={ s with at_:=if s.regs x.a.toNat=0 then x.n else s.at_+1 }:=by simp[doS,hE,ho]
  rw[hE,hS]
  refine⟨fun _=>rfl,fun _=>trivial,fun _ _=>rfl,fun _ _ _=>trivial,?_⟩
  refine zf_ (fn:=Tryz.f171) 4 8 0 rfl rfl rfl rfl rfl u12_ rfl fun w0 M E hro=>?_
  repeat' (first|refine Ctl.h ?_ |((with_reducible intro hif);first |(focus (cases hif;done)) |((try simp only[JH]at hif);try exact hy_)) |((with_reducible first|apply J22 xi_ za_|apply J23 fol xi_ za_|apply J24);(·rfl);(· exact k86_);(try kernel_rfl);try exact yr_)|fail)
  apply At.endsPick [0,1,2,3] za_ (fn:=Tryz.f171) (rs:=[.tmp 2]) Anc.refl hro (lb_ rfl) rfl
  ·exact yl_
  ·exact xz_
  ·rfl
  ·rfl
  ·rfl
  ·exact k83_
  ·rfl
  ·exact xg_
  ·exact k9_
  ·exact fun β=>rfl
  ·exact xg_
 ·cases hF
theorem m_jumpNeg:zi_ Tryz.prog 172 (mS (kF 11 false)):=mS_ok (by kernel_rfl) fun ar s v x cond val s' x' mv hF hc=>by
 unfold kF at hF
 split at hF
 ·cases hF
  obtain⟨ho,R,V,S⟩:=hc
  obtain⟨o0,o1,a0,a1,b0,b1,c0,c1,n0,n1⟩:=R.ok
  have ha:=R.a
  have hb:=R.b
  have hcc:=R.c
  have s0:=S.a0
  have s1:=S.a1
  have d0:=S.d0
  have d1:=S.d1
  have sc:=S.c1
  have sn:=S.n1
  have v0:=V.p0
  have v1:=V.p1
  have v2:=V.t0
  have v3:=V.t1
  have v4:=V.o0
  have v5:=V.l0
  have hj:=R.jmp (.inr (.inr ho))
  have hE:doE s v x=0:=by simp[doE,ho]
  have hS:doS s v x={ s with at_:=if s.regs x.a.toNat < 0 then x.n else s.at_+1 }:=by simp[doS,hE,ho]
  rw[hE,hS]
  refine⟨fun _=>rfl,fun _=>trivial,fun _ _=>rfl,fun _ _ _=>trivial,?_⟩
  refine zf_ (fn:=Tryz.f172) 4 8 0 rfl rfl rfl rfl rfl u12_ rfl fun w0 M E hro=>?_
  repeat' (first|refine Ctl.h ?_ |((with_reducible intro hif);first |(focus (cases hif;done)) |((try simp only[JH]at hif);try exact hy_)) |((with_reducible first|apply J22 xi_ za_|apply J23 fol xi_ za_|apply J24);(·rfl);(· exact k86_);(try kernel_rfl);try exact yr_)|fail)
  apply At.endsPick [0,1,2,3] za_ (fn:=Tryz.f172) (rs:=[.tmp 2]) Anc.refl hro (lb_ rfl) rfl
  ·exact yl_
  ·exact xz_
  ·rfl
  ·rfl
  ·rfl
  ·exact k83_
  ·rfl
  ·exact xg_
  ·exact k9_
  ·exact fun β=>rfl
  ·exact xg_
 ·cases hF
def cellB (s:Sta)(x:Ins):Bool:=decide (0≤s.regs x.b.toNat∧s.regs x.b.toNat < s.cells.length)
def cellF:MF:=fun ar s v x=>match ar with
 | []=>some (RI x∧SOk s,fun c=>bif cellB s x then .tup [.ptr c [.i (s.regs x.b.toNat).toNat 1],.int .i64 0] else .tup [.nilp,.int .i64 185],s,x,false)
 | _=>none
theorem cell_ok:zi_ Tryz.prog 176 (mS cellF):=mS_ok (by kernel_rfl) fun ar s v x cond val s' x' mv hF hc=>by
 unfold cellF at hF
 split at hF
 ·cases hF
  obtain⟨R,S⟩:=hc
  obtain⟨o0,o1,a0,a1,b0,b1,c0,c1,n0,n1⟩:=R.ok
  have hb:=R.b
  have sc:=S.c1
  have hsl:(s.cells.length:Int)≤1024:=by omega
  refine⟨fun _=>rfl,fun _=>trivial,fun ρ h0=>?_,fun h z1 z2=>?_,?_⟩
  ·cases cellB s x<;>simp[SV.ren,renL]
  ·cases cellB s x<;>simp[zc_,ze_,z1,z2]
  by_cases h1:s.regs x.b.toNat < 0
  ·have hcb:cellB s x=false:=by unfold cellB;simp;omega
   rw[hcb]
   refine zf_ (fn:=Tryz.f176) 4 26 0 rfl rfl rfl rfl rfl u12_ rfl fun w0 M E hro=>?_
   repeat' (first|refine Ctl.h ?_ |((with_reducible intro hif);first |(focus (cases hif;done)) |((try simp only[JH]at hif);try exact hy_)) |((with_reducible first|apply J22 xi_ za_|apply J23 fol xi_ za_|apply J24);(·rfl);(· (simp only[push_cast,↓JP,Nat.reduceAdd,Nat.reduceEqDiff,Nat.reduceLT,Nat.reduceMul,Nat.reduceLeDiff,reduceCtorEq,reduceIte,↓JK,cM1,sDraw,JE,Bool.cond_decide,h1];rfl));(try kernel_rfl);try exact yr_)|fail)
   apply At.endsPick [0,1,2,3] za_ (fn:=Tryz.f176) (rs:=[.tmp 2,.tmp 3]) Anc.refl hro (lb_ rfl) rfl
   ·exact yl_
   ·exact xz_
   ·rfl
   ·rfl
   ·rfl
   ·exact k83_
   ·rfl
   ·exact xg_
   ·exact k9_
   ·exact fun β=>rfl
   ·exact xg_
  by_cases h2:(s.cells.length:Int)≤s.regs x.b.toNat
  ·have hcb:cellB s x=false:=by unfold cellB;simp;omega
   rw[hcb]
   refine zf_ (fn:=Tryz.f176) 4 26 0 rfl rfl rfl rfl rfl u12_ rfl fun w0 M E hro=>?_
   repeat' (first|refine Ctl.h ?_ |((with_reducible intro hif);first |(focus (cases hif;done)) |((try simp only[JH]at hif);try exact hy_)) |((with_reducible first|apply J22 xi_ za_|apply J23 fol xi_ za_|apply J24);(·rfl);(· exact k87_);(try kernel_rfl);try exact yr_)|fail)
   apply At.endsPick [0,1,2,3] za_ (fn:=Tryz.f176) (rs:=[.tmp 2,.tmp 3]) Anc.refl hro (lb_ rfl) rfl
   ·exact yl_
   ·exact xz_
   ·rfl
   ·rfl
   ·rfl
   ·exact k83_
   ·rfl
   ·exact xg_
   ·exact k9_
   ·exact fun β=>rfl
   ·exact xg_
  ·have hcb:cellB s x=true:=by unfold cellB;simp;omega
   rw[hcb]
   have hr:(s.regs x.b.toNat).toNat < s.cells.length:=by omega
   refine zf_ (fn:=Tryz.f176) 4 26 0 rfl rfl rfl rfl rfl u12_ rfl fun w0 M E hro=>?_
   repeat' (first|refine Ctl.h ?_ |((with_reducible intro hif);first |(focus (cases hif;done)) |((try simp only[JH]at hif);try exact hy_)) |((with_reducible first|apply J22 xi_ za_|apply J23 fol xi_ za_|apply J24);(·rfl);(· exact k87_);(try kernel_rfl);try exact yr_)|fail)
   apply At.endsPick [0,1,2,3] za_ (fn:=Tryz.f176) (rs:=[.tmp 2,.tmp 3]) Anc.refl hro (lb_ rfl) rfl
   ·exact yl_
   ·exact xz_
   ·rfl
   ·rfl
   ·rfl
   ·exact k83_
   ·rfl
   ·exact xg_
   ·exact k9_
   ·exact fun β=>rfl
   ·exact xg_
 ·cases hF
def wF:MF:=fun ar s v x=>match ar with
 | []=>some (32 < x.op∧RI x∧VOk v∧SOk s,fun _=>.int .i64 (doE s v x),doS s v x,x,false)
 | _=>none
theorem m_word:zi_ Tryz.prog 173 (mS wF):=mS_ok (by kernel_rfl) fun ar s v x cond val s' x' mv hF hc=>by
 unfold wF at hF
 split at hF
 ·cases hF
  obtain⟨ho,R,V,S⟩:=hc
  obtain⟨o0,o1,a0,a1,b0,b1,c0,c1,n0,n1⟩:=R.ok
  have ha:=R.a
  have hb:=R.b
  have hcc:=R.c
  have s0:=S.a0
  have s1:=S.a1
  have d0:=S.d0
  have d1:=S.d1
  have sc:=S.c1
  have sn:=S.n1
  have v0:=V.p0
  have v1:=V.p1
  have v2:=V.t0
  have v3:=V.t1
  have v4:=V.o0
  have v5:=V.l0
  have hop:x.op - 32≤255:=by omega
  have hE:doE s v x=yp_ (x.op - 32) (s.regs x.c.toNat):=by
   have h32:¬x.op < 32:=by omega
   simp[doE,show ¬x.op=2 by omega,show ¬x.op=5 by omega,show ¬x.op=6 by omega,show ¬x.op=7 by omega,show ¬x.op=8 by omega,h32]
  by_cases hw:yp_ (x.op - 32) (s.regs x.c.toNat)=0
  ·have hS:doS s v x=s.put x.a.toNat (yx_ (x.op - 32) (s.regs x.b.toNat) (s.regs x.c.toNat)):=by
    unfold doS
    rw[hE,hw]
    simp[show ¬x.op=1 by omega,show ¬x.op=3 by omega,show ¬x.op=4 by omega,show ¬x.op=5 by omega,show ¬x.op=6 by omega,show ¬x.op=7 by omega,show ¬x.op=8 by omega,show ¬x.op=9 by omega,show ¬x.op=10 by omega,show ¬x.op=11 by omega]
   rw[hE,hw,hS]
   refine⟨fun _=>rfl,fun _=>trivial,fun _ _=>rfl,fun _ _ _=>trivial,?_⟩
   refine zf_ (fn:=Tryz.f173) 4 25 0 rfl rfl rfl rfl rfl u12_ rfl fun w0 M E hro=>?_
   repeat' (first|refine Ctl.h ?_ |((with_reducible intro hif);first |(focus (cases hif;done)) |((try simp only[JH]at hif);try exact hy_)) |((with_reducible first|apply J22 xi_ za_|apply J23 fol xi_ za_|apply J24);(·rfl);(· exact k88_);(try kernel_rfl);try exact yr_)|fail)
   apply At.endsPick [0,1,2,3] za_ (fn:=Tryz.f173) (rs:=[.tmp 2]) Anc.refl hro (lb_ rfl) rfl
   ·exact yl_
   ·exact xz_
   ·rfl
   ·rfl
   ·rfl
   ·exact k83_
   ·rfl
   ·exact xg_
   ·exact k9_
   ·exact fun β=>rfl
   ·exact xg_
  ·have hS:doS s v x=s:=doS_bad (by rw[hE];exact hw)
   rw[hE,hS]
   refine⟨fun _=>rfl,fun _=>trivial,fun _ _=>rfl,fun _ _ _=>trivial,?_⟩
   refine zf_ (fn:=Tryz.f173) 4 25 0 rfl rfl rfl rfl rfl u12_ rfl fun w0 M E hro=>?_
   repeat' (first|refine Ctl.h ?_ |((with_reducible intro hif);first |(focus (cases hif;done)) |((try simp only[JH]at hif);try exact hy_)) |((with_reducible first|apply J22 xi_ za_|apply J23 fol xi_ za_|apply J24);(·rfl);(· exact k88_);(try kernel_rfl);try exact yr_)|fail)
   apply At.endsPick [0,1,2,3] za_ (fn:=Tryz.f173) (rs:=[.tmp 2]) Anc.refl hro (lb_ rfl) rfl
   ·exact yl_
   ·exact xz_
   ·rfl
   ·rfl
   ·rfl
   ·exact k83_
   ·rfl
   ·exact xg_
   ·exact k9_
   ·exact fun β=>rfl
   ·exact xg_
 ·cases hF
-- ----------------------------------------
theorem m_draw:zi_ Tryz.prog 168 (mS (kF 7 false)):=mS_ok (by kernel_rfl) fun ar s v x cond val s' x' mv hF hc=>by
 unfold kF at hF
 split at hF
 ·cases hF
  obtain⟨ho,R,V,S⟩:=hc
  obtain⟨o0,o1,a0,a1,b0,b1,c0,c1,n0,n1⟩:=R.ok
  have ha:=R.a
  have hb:=R.b
  have hcc:=R.c
  have s0:=S.a0
  have s1:=S.a1
  have d0:=S.d0
  have d1:=S.d1
  have sc:=S.c1
  have sn:=S.n1
  have v0:=V.p0
  have v1:=V.p1
  have v2:=V.t0
  have v3:=V.t1
  have v4:=V.o0
  have v5:=V.l0
  by_cases q0:s.regs x.b.toNat < 1
  ·have hE:doE s v x=186:=by simp[doE,sendE,ho,q0]
   have hS:doS s v x=s:=doS_bad (by rw[hE];decide)
   rw[hE,hS]
   refine⟨fun _=>rfl,fun _=>trivial,fun _ _=>rfl,fun _ _ _=>trivial,?_⟩
   refine zf_ (fn:=Tryz.f168) 4 49 0 rfl rfl rfl rfl rfl u12_ rfl fun w0 M E hro=>?_
   repeat' (first|refine Ctl.h ?_ |((with_reducible intro hif);first |(focus (cases hif;done)) |((try simp only[JH]at hif);try exact hy_)) |((with_reducible first|apply J22 xi_ za_|apply J23 fol xi_ za_|apply J24);(·rfl);(· (simp only[push_cast,↓JP,Nat.reduceAdd,Nat.reduceEqDiff,Nat.reduceLT,Nat.reduceMul,Nat.reduceLeDiff,reduceCtorEq,reduceIte,↓JK,cM1,sDraw,JE,Bool.cond_decide,q0];rfl));(try kernel_rfl);try exact yr_)|fail)
   apply At.endsPick [0,1,2,3] za_ (fn:=Tryz.f168) (rs:=[.tmp 2]) Anc.refl hro (lb_ rfl) rfl
   ·exact yl_
   ·exact xz_
   ·rfl
   ·rfl
   ·rfl
   ·exact k83_
   ·rfl
   ·exact xg_
   ·exact k9_
   ·exact fun β=>rfl
   ·exact xg_
  by_cases q1:s.draws=1099511627776
  ·have hE:doE s v x=187:=by simp[doE,sendE,ho,q0,q1]
   have hS:doS s v x=s:=doS_bad (by rw[hE];decide)
   rw[hE,hS]
   refine⟨fun _=>rfl,fun _=>trivial,fun _ _=>rfl,fun _ _ _=>trivial,?_⟩
   refine zf_ (fn:=Tryz.f168) 4 49 0 rfl rfl rfl rfl rfl u12_ rfl fun w0 M E hro=>?_
   repeat' (first|refine Ctl.h ?_ |((with_reducible intro hif);first |(focus (cases hif;done)) |((try simp only[JH]at hif);try exact hy_)) |((with_reducible first|apply J22 xi_ za_|apply J23 fol xi_ za_|apply J24);(·rfl);(· exact k89_);(try kernel_rfl);try exact yr_)|fail)
   apply At.endsPick [0,1,2,3] za_ (fn:=Tryz.f168) (rs:=[.tmp 2]) Anc.refl hro (lb_ rfl) rfl
   ·exact yl_
   ·exact xz_
   ·rfl
   ·rfl
   ·rfl
   ·exact k83_
   ·rfl
   ·exact xg_
   ·exact k9_
   ·exact fun β=>rfl
   ·exact xg_
  have hE:doE s v x=0:=by simp[doE,sendE,ho,q0,q1]
  have hS:doS s v x={ s.put x.a.toNat (drawI v.seed v.process s.draws (s.regs x.b.toNat))with draws:=s.draws+1 }:=by simp[doS,hE,ho]
  rw[hE,hS]
  refine⟨fun _=>rfl,fun _=>trivial,fun _ _=>rfl,fun _ _ _=>trivial,?_⟩
  refine zf_ (fn:=Tryz.f168) 4 49 0 rfl rfl rfl rfl rfl u12_ rfl fun w0 M E hro=>?_
  repeat' (first|refine Ctl.h ?_ |((with_reducible intro hif);first |(focus (cases hif;done)) |((try simp only[JH]at hif);try exact hy_)) |((with_reducible first|apply J22 xi_ za_|apply J23 fol xi_ za_|apply J24);(·rfl);(· exact k89_);(try kernel_rfl);try exact yr_)|fail)
  apply At.endsPick [0,1,2,3] za_ (fn:=Tryz.f168) (rs:=[.tmp 2]) Anc.refl hro (lb_ rfl) rfl
  ·exact yl_
  ·exact xz_
  ·rfl
  ·rfl
  ·rfl
  ·exact k83_
  ·rfl
  ·exact xg_
  ·exact k9_
  ·exact fun β=>rfl
  ·exact xg_
 ·cases hF
def cM2:FuncId→Option yn_:=y9_ [(177,rS aF),(175,rS bF),(174,mS putF),(176,mS cellF)]
theorem cM2_ok:∀f S,cM2 f=some S→zi_ Tryz.prog f S:=zr_ ⟨a_ok,b_ok,put_ok,cell_ok,trivial⟩
theorem m_load:zi_ Tryz.prog 166 (mS (kF 5 false)):=mS_ok (by kernel_rfl) fun ar s v x cond val s' x' mv hF hc=>by
 unfold kF at hF
 split at hF
 ·cases hF
  obtain⟨ho,R,V,S⟩:=hc
  obtain⟨o0,o1,a0,a1,b0,b1,c0,c1,n0,n1⟩:=R.ok
  have ha:=R.a
  have hb:=R.b
  have hcc:=R.c
  have s0:=S.a0
  have s1:=S.a1
  have d0:=S.d0
  have d1:=S.d1
  have sc:=S.c1
  have sn:=S.n1
  have v0:=V.p0
  have v1:=V.p1
  have v2:=V.t0
  have v3:=V.t1
  have v4:=V.o0
  have v5:=V.l0
  by_cases h1:s.regs x.b.toNat < 0∨(s.cells.length:Int)≤s.regs x.b.toNat
  ·have hcb:cellB s x=false:=by unfold cellB;simp;omega
   have hE:doE s v x=185:=by simp[doE,ho,h1]
   have hS:doS s v x=s:=doS_bad (by rw[hE];decide)
   rw[hE,hS]
   refine⟨fun _=>rfl,fun _=>trivial,fun _ _=>rfl,fun _ _ _=>trivial,?_⟩
   refine zf_ (fn:=Tryz.f166) 4 18 0 rfl rfl rfl rfl rfl u12_ rfl fun w0 M E hro=>?_
   repeat' (first|refine Ctl.h ?_ |((with_reducible intro hif);first |(focus (cases hif;done)) |((try simp only[JH]at hif);try exact hy_)) |((with_reducible first|apply J22 cM2_ok za_|apply J23 fol cM2_ok za_|apply J24);(·rfl);(· exact k91_);(try kernel_rfl);try exact k90_)|fail)
   apply At.endsPick [0,1,2,3] za_ (fn:=Tryz.f166) (rs:=[.tmp 2]) Anc.refl hro (lb_ rfl) rfl
   ·exact yl_
   ·exact xz_
   ·rfl
   ·rfl
   ·rfl
   ·exact k83_
   ·rfl
   ·exact xg_
   ·exact k9_
   ·exact fun β=>rfl
   ·exact xg_
  ·have hcb:cellB s x=true:=by unfold cellB;simp;omega
   have hr:(s.regs x.b.toNat).toNat < s.cells.length:=by omega
   have hE:doE s v x=0:=by simp[doE,ho,h1]
   have hS:doS s v x=s.put x.a.toNat (s.cells.getD (s.regs x.b.toNat).toNat 0):=by simp[doS,hE,ho]
   rw[hE,hS]
   refine⟨fun _=>rfl,fun _=>trivial,fun _ _=>rfl,fun _ _ _=>trivial,?_⟩
   refine zf_ (fn:=Tryz.f166) 4 18 0 rfl rfl rfl rfl rfl u12_ rfl fun w0 M E hro=>?_
   repeat' (first|refine Ctl.h ?_ |((with_reducible intro hif);first |(focus (cases hif;done)) |((try simp only[JH]at hif);try exact hy_)) |((with_reducible first|apply J22 cM2_ok za_|apply J23 fol cM2_ok za_|apply J24);(·rfl);(· exact k91_);(try kernel_rfl);try exact k90_)|fail)
   apply At.endsPick [0,1,2,3] za_ (fn:=Tryz.f166) (rs:=[.tmp 2]) Anc.refl hro (lb_ rfl) rfl
   ·exact yl_
   ·exact xz_
   ·rfl
   ·rfl
   ·rfl
   ·exact k83_
   ·rfl
   ·exact xg_
   ·exact k9_
   ·exact fun β=>rfl
   ·exact xg_
 ·cases hF
theorem m_store:zi_ Tryz.prog 167 (mS (kF 6 false)):=mS_ok (by kernel_rfl) fun ar s v x cond val s' x' mv hF hc=>by
 unfold kF at hF
 split at hF
 ·cases hF
  obtain⟨ho,R,V,S⟩:=hc
  obtain⟨o0,o1,a0,a1,b0,b1,c0,c1,n0,n1⟩:=R.ok
  have ha:=R.a
  have hb:=R.b
  have hcc:=R.c
  have s0:=S.a0
  have s1:=S.a1
  have d0:=S.d0
  have d1:=S.d1
  have sc:=S.c1
  have sn:=S.n1
  have v0:=V.p0
  have v1:=V.p1
  have v2:=V.t0
  have v3:=V.t1
  have v4:=V.o0
  have v5:=V.l0
  by_cases h1:s.regs x.b.toNat < 0∨(s.cells.length:Int)≤s.regs x.b.toNat
  ·have hcb:cellB s x=false:=by unfold cellB;simp;omega
   have hE:doE s v x=185:=by simp[doE,ho,h1]
   have hS:doS s v x=s:=doS_bad (by rw[hE];decide)
   rw[hE,hS]
   refine⟨fun _=>rfl,fun _=>trivial,fun _ _=>rfl,fun _ _ _=>trivial,?_⟩
   refine zf_ (fn:=Tryz.f167) 4 26 0 rfl rfl rfl rfl rfl u12_ rfl fun w0 M E hro=>?_
   repeat' (first|refine Ctl.h ?_ |((with_reducible intro hif);first |(focus (cases hif;done)) |((try simp only[JH]at hif);try exact hy_)) |((with_reducible first|apply J22 cM2_ok za_|apply J23 fol cM2_ok za_|apply J24);(·rfl);(· exact k91_);(try kernel_rfl);try exact k90_)|fail)
   apply At.endsPick [0,1,2,3] za_ (fn:=Tryz.f167) (rs:=[.tmp 2]) Anc.refl hro (lb_ rfl) rfl
   ·exact yl_
   ·exact xz_
   ·rfl
   ·rfl
   ·rfl
   ·exact k83_
   ·rfl
   ·exact xg_
   ·exact k9_
   ·exact fun β=>rfl
   ·exact xg_
  ·have hcb:cellB s x=true:=by unfold cellB;simp;omega
   have hr:(s.regs x.b.toNat).toNat < s.cells.length:=by omega
   have hE:doE s v x=0:=by simp[doE,ho,h1]
   have hS:doS s v x={ s with cells:=s.cells.set (s.regs x.b.toNat).toNat (s.regs x.a.toNat),at_:=s.at_+1 }:=by simp[doS,hE,ho]
   rw[hE,hS]
   refine⟨fun _=>rfl,fun _=>trivial,fun _ _=>rfl,fun _ _ _=>trivial,?_⟩
   refine zf_ (fn:=Tryz.f167) 4 26 0 rfl rfl rfl rfl rfl u12_ rfl fun w0 M E hro=>?_
   repeat' (first|refine Ctl.h ?_ |((with_reducible intro hif);first |(focus (cases hif;done)) |((try simp only[JH]at hif);try exact hy_)) |((with_reducible first|apply J22 cM2_ok za_|apply J23 fol cM2_ok za_|apply J24);(·rfl);(· exact k91_);(try kernel_rfl);try exact k90_)|fail)
   apply At.endsPick [0,1,2,3] za_ (fn:=Tryz.f167) (rs:=[.tmp 2]) Anc.refl hro (lb_ rfl) rfl
   ·exact yl_
   ·exact xz_
   ·rfl
   ·rfl
   ·rfl
   ·exact k83_
   ·rfl
   ·exact xg_
   ·exact k9_
   ·exact fun β=>rfl
   ·exact xg_
 ·cases hF
end Go.Proofs.YtjliakjbdcplcaaGreat.Vm
end
section
namespace Go.Proofs.YtjliakjbdcplcaaGreat.Vm
open Go.RowKit
attribute [local push_cast] prS zo_ zp_ xt_ y8_ y7_ y6_ y5_ y4_ xs_ y3_ y2_ y1_ zn_ z2_ z4_ z1_ zu_ zt_ iOf JM cM1 rS mS macP aF bF cF putF jumpIfF sApply sDraw JE inR inN
theorem snd_app {l:List Snd}{y:Snd}{q:Nat}(hq:q < l.length+1)(z:SV)(β : Env):(SV.ite (decide (q < l.length)) (sndS (l.getD q ⟨0,0,0⟩)) ([sndS y].getD (q - l.length) z)).cl β =((l++[y]).getD q ⟨0,0,0⟩).cells:=by
 rw[xk_]
 by_cases h:q < l.length
 ·simp only[h,decide_true,cond_true,List.getD_eq_getElem?_getD,List.getElem?_append_left h]
  rw[isSnd_cl (z4_ _),z1_]
 ·obtain rfl:q=l.length:=by omega
  simp only[Nat.lt_irrefl,decide_false,cond_false,Nat.sub_self,List.getD_eq_getElem?_getD,List.getElem?_append_right (Nat.le_refl _),List.getElem?_cons_zero,Option.getD_some]
  rw[isSnd_cl (z4_ _),z1_]
theorem m_send:zi_ Tryz.prog 169 (mS (kF 8 true)):=mS_ok (by kernel_rfl) fun ar s v x cond val s' x' mv hF hc=>by
 unfold kF at hF
 split at hF
 ·cases hF
  obtain⟨ho,R,V,S⟩:=hc
  obtain⟨o0,o1,a0,a1,b0,b1,c0,c1,n0,n1⟩:=R.ok
  have ha:=R.a
  have hb:=R.b
  have hcc:=R.c
  have s0:=S.a0
  have s1:=S.a1
  have d0:=S.d0
  have d1:=S.d1
  have sc:=S.c1
  have sn:=S.n1
  have v0:=V.p0
  have v1:=V.p1
  have v2:=V.t0
  have v3:=V.t1
  have v4:=V.o0
  have v5:=V.l0
  by_cases q0:v.ports≤x.n
  ·have hE:doE s v x=188:=by simp[doE,sendE,ho,q0]
   have hS:doS s v x=s:=doS_bad (by rw[hE];decide)
   rw[hE,hS]
   refine⟨fun _=>rfl,fun _=>trivial,fun _ _=>rfl,fun _ _ _=>trivial,?_⟩
   refine zf_ (fn:=Tryz.f169) 4 72 0 rfl rfl rfl rfl rfl u12_ rfl fun w0 M E hro=>?_
   repeat' (first|refine Ctl.h ?_ |((with_reducible intro hif);first |(focus (cases hif;done)) |((try simp only[JH]at hif);try exact hy_)) |((with_reducible first|apply J22 xi_ za_|apply J23 fol xi_ za_|apply J24);(·rfl);(· (simp only[push_cast,↓JP,Nat.reduceAdd,Nat.reduceEqDiff,Nat.reduceLT,Nat.reduceMul,Nat.reduceLeDiff,reduceCtorEq,reduceIte,↓JK,Bool.cond_decide,q0];rfl));(try kernel_rfl);try exact yr_)|fail)
   apply At.endsPick [0,1,2,3,3] za_ (fn:=Tryz.f169) (rs:=[.tmp 2]) Anc.refl hro (lb_ rfl) rfl
   ·exact yl_
   ·exact xz_
   ·rfl
   ·rfl
   ·rfl
   ·exact k84_
   ·rfl
   ·exact xg_
   ·exact k9_
   ·exact fun β=>rfl
   ·exact xg_
  by_cases q1:s.regs x.a.toNat < v.look
  ·have hE:doE s v x=189:=by simp[doE,sendE,ho,q0,q1]
   have hS:doS s v x=s:=doS_bad (by rw[hE];decide)
   rw[hE,hS]
   refine⟨fun _=>rfl,fun _=>trivial,fun _ _=>rfl,fun _ _ _=>trivial,?_⟩
   refine zf_ (fn:=Tryz.f169) 4 72 0 rfl rfl rfl rfl rfl u12_ rfl fun w0 M E hro=>?_
   repeat' (first|refine Ctl.h ?_ |((with_reducible intro hif);first |(focus (cases hif;done)) |((try simp only[JH]at hif);try exact hy_)) |((with_reducible first|apply J22 xi_ za_|apply J23 fol xi_ za_|apply J24);(·rfl);(· (simp only[push_cast,↓JP,Nat.reduceAdd,Nat.reduceEqDiff,Nat.reduceLT,Nat.reduceMul,Nat.reduceLeDiff,reduceCtorEq,reduceIte,↓JK,Bool.cond_decide,q0,q1];rfl));(try kernel_rfl);try exact yr_)|fail)
   apply At.endsPick [0,1,2,3,3] za_ (fn:=Tryz.f169) (rs:=[.tmp 2]) Anc.refl hro (lb_ rfl) rfl
   ·exact yl_
   ·exact xz_
   ·rfl
   ·rfl
   ·rfl
   ·exact k84_
   ·rfl
   ·exact xg_
   ·exact k9_
   ·exact fun β=>rfl
   ·exact xg_
  by_cases q2:281474976710656 - v.now < s.regs x.a.toNat
  ·have hE:doE s v x=1800:=by simp[doE,sendE,ho,q0,q1,q2]
   have hS:doS s v x=s:=doS_bad (by rw[hE];decide)
   rw[hE,hS]
   refine⟨fun _=>rfl,fun _=>trivial,fun _ _=>rfl,fun _ _ _=>trivial,?_⟩
   refine zf_ (fn:=Tryz.f169) 4 72 0 rfl rfl rfl rfl rfl u12_ rfl fun w0 M E hro=>?_
   repeat' (first|refine Ctl.h ?_ |((with_reducible intro hif);first |(focus (cases hif;done)) |((try simp only[JH]at hif);try exact hy_)) |((with_reducible first|apply J22 xi_ za_|apply J23 fol xi_ za_|apply J24);(·rfl);(· (simp only[push_cast,↓JP,Nat.reduceAdd,Nat.reduceEqDiff,Nat.reduceLT,Nat.reduceMul,Nat.reduceLeDiff,reduceCtorEq,reduceIte,↓JK,Bool.cond_decide,q0,q1,q2];rfl));(try kernel_rfl);try exact yr_)|fail)
   apply At.endsPick [0,1,2,3,3] za_ (fn:=Tryz.f169) (rs:=[.tmp 2]) Anc.refl hro (lb_ rfl) rfl
   ·exact yl_
   ·exact xz_
   ·rfl
   ·rfl
   ·rfl
   ·exact k84_
   ·rfl
   ·exact xg_
   ·exact k9_
   ·exact fun β=>rfl
   ·exact xg_
  by_cases q3:256≤s.sends.length
  ·have hE:doE s v x=1801:=by simp[doE,sendE,ho,q0,q1,q2,q3]
   have hS:doS s v x=s:=doS_bad (by rw[hE];decide)
   rw[hE,hS]
   refine⟨fun _=>rfl,fun _=>trivial,fun _ _=>rfl,fun _ _ _=>trivial,?_⟩
   refine zf_ (fn:=Tryz.f169) 4 72 0 rfl rfl rfl rfl rfl u12_ rfl fun w0 M E hro=>?_
   repeat' (first|refine Ctl.h ?_ |((with_reducible intro hif);first |(focus (cases hif;done)) |((try simp only[JH]at hif);try exact hy_)) |((with_reducible first|apply J22 xi_ za_|apply J23 fol xi_ za_|apply J24);(·rfl);(· exact k92_);(try kernel_rfl);try exact yr_)|fail)
   apply At.endsPick [0,1,2,3,3] za_ (fn:=Tryz.f169) (rs:=[.tmp 2]) Anc.refl hro (lb_ rfl) rfl
   ·exact yl_
   ·exact xz_
   ·rfl
   ·rfl
   ·rfl
   ·exact k84_
   ·rfl
   ·exact xg_
   ·exact k9_
   ·exact fun β=>rfl
   ·exact xg_
  have hE:doE s v x=0:=by simp[doE,sendE,ho,q0,q1,q2,q3]
  have hS:doS s v x={ s with at_:=s.at_+1,sends:=s.sends++[⟨x.n,s.regs x.a.toNat,s.regs x.b.toNat⟩] }:=by simp[doS,hE,ho]
  rw[hE,hS]
  refine⟨fun _=>rfl,fun _=>trivial,fun _ _=>rfl,fun _ _ _=>trivial,?_⟩
  have hx:=R.snd ho
  have hY:∀σ,Less (.own 125 (.arr (s.sends.length+1) 3 fun q=>SV.ite (decide (q < s.sends.length)) (sndS (s.sends.getD q ⟨0,0,0⟩)) ([SV.agg [.int .i64 x.n,.int .i64 (s.regs x.a.toNat),.int .i64 (s.regs x.b.toNat)]].getD (q - s.sends.length) (.agg [.nat .i64 0,.nat .i64 0,.nat .i64 0]))) false) ((HB.own 125 (.arr (s.sends++[(⟨x.n,s.regs x.a.toNat,s.regs x.b.toNat⟩:Snd)]).length 3 (zo_ (s.sends++[(⟨x.n,s.regs x.a.toNat,s.regs x.b.toNat⟩:Snd)]))) false).ren σ):=fun σ=>less_snd s.sends ⟨x.n,s.regs x.a.toNat,s.regs x.b.toNat⟩ rfl fun q hq β=>snd_app (y:=⟨x.n,s.regs x.a.toNat,s.regs x.b.toNat⟩) hq _ β
  refine zf_ (fn:=Tryz.f169) 4 72 0 rfl rfl rfl rfl rfl u12_ rfl fun w0 M E hro=>?_
  repeat' (first|refine Ctl.h ?_ |((with_reducible intro hif);first |(focus (cases hif;done)) |((try simp only[JH]at hif);try exact hy_)) |((with_reducible first|apply J22 xi_ za_|apply J23 fol xi_ za_|apply J24);(·rfl);(· exact k92_);(try kernel_rfl);try exact yr_)|fail)
  apply At.endsPick [0,1,2,3,5] za_ (fn:=Tryz.f169) (rs:=[.tmp 2]) Anc.refl hro (lb_ rfl) rfl
  ·exact yl_
  ·exact xz_
  ·rfl
  ·rfl
  ·rfl
  ·exact k84_
  ·rfl
  ·exact xg_
  ·exact k9_
  ·exact fun β=>rfl
  ·exact xg_
 ·cases hF
end Go.Proofs.YtjliakjbdcplcaaGreat.Vm
end

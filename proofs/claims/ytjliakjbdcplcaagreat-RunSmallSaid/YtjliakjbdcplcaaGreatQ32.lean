import Derived.Test.YtjliakjbdcplcaaGreatQ1
import Derived.Test.YtjliakjbdcplcaaGreatQ9
import Derived.Test.YtjliakjbdcplcaaGreatQ28
import Derived.Test.YtjliakjbdcplcaaGreatQ29
import Derived.Test.YtjliakjbdcplcaaGreatQ31
set_option linter.unusedSimpArgs false
set_option linter.unusedVariables false
set_option maxRecDepth 100000
set_option maxHeartbeats 4000000
section
open Go.Proofs.YtjliakjbdcplcaaGreat.Vm Go.RowKit
attribute [local push_cast] prS zo_ zp_ xt_ y8_ y7_ y6_ y5_ y4_ xs_ y3_ y2_ y1_ zn_ z2_ z4_ z1_ zu_ zt_ iOf
section
namespace Go.Proofs.YtjliakjbdcplcaaGreat.Vm
open Go.RowKit
def sGoes19:yn_:=fun args h m=>match args with
 | [.agg [v1,.agg [v2,v3,v4,v5,v6],.agg [.agg [v7,v8,v9],v10,v11],v12,v13,v14],v15]=>match xm_ h 5 (.tup []) v1,xm_ h 1 (.tup []) v12,xm_ h 1 (.tup []) v15 with
  | some (c1,n1,f1,r1),some (c12,n12,f12,r12),some (c15,n15,f15,r15)=>bif isI .u64 v2 && isI .i64 v3 && isI .i64 v4 && isI .i64 v5 && isI .i64 v6 && isI .i64 v7 && isI .i64 v8 && isI .i64 v9 && isI .i64 v10 && isI .i64 v11 && isI .i64 v13 && isI .i64 v14 then some (c1∧c12∧c15∧(∀q,q < n1→isIns (f1 q)=true)∧(∀q,q < n12→isI .i64 (f12 q)=true)∧(∀q,q < n15→isI .i64 (f15 q)=true)∧((∀x∈(ls zm_ n1 f1),x.ok))∧((∀k,R64 ((ls iOf n12 f12).getD k 0)))∧((∀k,R64 ((ls iOf n15 f15).getD k 0)))∧(R64 (iOf v11))∧(R64 (iOf v7))∧(R64 (iOf v8)),.bool true,r1++r12++r15,[])else none
  | _,_,_=>none
 | _=>none
theorem sGoes19_ok:zi_ Tryz.prog 10 sGoes19:=by
 refine⟨zg_ (by kernel_rfl),fun args h m c v rd wr hs hm hc w0 M β h' w R hrd hwr hst=>?_⟩
 unfold sGoes19 at hs
 split at hs
 ·rename_i v1 v2 v3 v4 v5 v6 v7 v8 v9 v10 v11 v12 v13 v14 v15
  split at hs
  ·rename_i c1 n1 f1 r1 c12 n12 f12 r12 c15 n15 f15 r15 a1 a12 a15
   obtain⟨hb,hs⟩:=zl_ hs
   simp only[Option.some.injEq,Prod.mk.injEq]at hs
   obtain⟨rfl,rfl,rfl,rfl⟩:=hs
   simp only[Bool.and_eq_true]at hb
   obtain⟨⟨⟨⟨⟨⟨⟨⟨⟨⟨⟨b2,b3⟩,b4⟩,b5⟩,b6⟩,b7⟩,b8⟩,b9⟩,b10⟩,b11⟩,b13⟩,b14⟩:=hb
   obtain⟨k1,k12,k15,g1,g12,g15,y1,y2,y3,y4,y5,y6⟩:=hc
   obtain⟨A1,p1,d1,e1,t1⟩:=zh_ R a1 k1 (fun i hi=>hrd i (List.mem_append_left _ (List.mem_append_left _ hi))) (by omega)
   obtain⟨A12,p12,d12,e12,t12⟩:=zh_ R a12 k12 (fun i hi=>hrd i (List.mem_append_left _ (List.mem_append_right _ hi))) (by omega)
   obtain⟨A15,p15,d15,e15,t15⟩:=zh_ R a15 k15 (fun i hi=>hrd i (List.mem_append_right _ hi)) (by omega)
   refine yh_ (views:=[⟨5,(ls zm_ n1 f1).length,prS (ls zm_ n1 f1),A1,p1⟩,⟨1,(ls iOf n12 f12).length,zp_ (ls iOf n12 f12),A12,p12⟩,⟨1,(ls iOf n15 f15).length,zp_ (ls iOf n15 f15),A15,p15⟩]) (goes_lit (ls zm_ n1 f1) ⟨(iOf v2),(iOf v3),(iOf v4),(iOf v5),(iOf v6)⟩ (iOf v7) (iOf v8) (iOf v9) (iOf v10) (iOf v11) (iOf v13) (iOf v14) (ls iOf n12 f12) (ls iOf n15 f15) p1 p12 p15 y1 y2 y3 (by rw[zb_];exact e15) y4 y5 y6) ?_ R hm hwr ?_ ?_ ?_
   ·intro x hx
    simp only[List.mem_cons,List.not_mem_nil,or_false]at hx
    rcases hx with rfl|rfl|rfl
    ·exact x2_ t1 e1 g1
    ·exact z5_ t12 e12 g12
    ·exact z5_ t15 e15 g15
   ·intro β1 hv
    simp only[Vd,zb_,and_true]at hv
    obtain⟨z1,z12,z15⟩:=hv
    simp only[denL,yb_,ya_,z9_,zx_,zb_,z1,z12,z15,d1,d12,d15,zd_ b2,zd_ b3,zd_ b4,zd_ b5,zd_ b6,zd_ b7,zd_ b8,zd_ b9,zd_ b10,zd_ b11,zd_ b13,zd_ b14]
   ·exact k172_
   ·exact k172_
  ·cases hs
 ·cases hs
def zSt:SV:=.agg [.nat .i64 0,.bool false,.arr 8 1 (fun _=>.nat .i64 0),.sl 0 0 [] 0 0 0 (some 0),.nat .i64 0,.sl 0 0 [] 0 0 0 (some 0)]
def zE (u:Nat)(w:Bool):SV:=.agg [.nilp,.nilf,.nat .i64 u,.bool w]
def zEB (u:Nat)(w:Bool):HB:=.own 52 (zE u w) true
def sNil (val:SV):yn_:=fun args h m=>match args with
 | [.nilp]=>some (True,val,[],[])
 | [.ptr g []]=>match h g with
  | .own t (.agg [.nilp,.nilf,.nat .i64 u,.bool w]) true=>bif Nat.beq t 52 && z3_ [0,g] then some (True,val,[g],[(g,zEB u w)])else none
  | _=>none
 | _=>none
theorem nil_bun {h':HM}{g u m:Nat}{w:Bool}(eg:h' g=.own 52 (.agg [.nilp,.nilf,.nat .i64 u,.bool w]) true)(e0:h' 0=.gone):BunL (wd_ [0,g] m) h' [.gone,zEB u w] [0,g]:=
 ⟨Fit.gone (by rw[e0];rfl),(by show Less (h' g) (.own 52 ((zE u w).ren _) true);rw[eg];exact .same _),trivial⟩
theorem zEB_st {h:HM}{u:Nat}{w:Bool}:(zEB u w).stable h:=by simp[HB.stable,zEB,zE,zc_,ze_]
theorem sNil_ok {f:FuncId}{val:SV}(hf:named Tryz.prog f=true)(hr:∀ρ : Nat→Nat,ρ 0=0→val.ren ρ = val)(hv:∀h:HM,(h 0).born=true→zc_ h val)(h1:zs_ Tryz.prog f [.nilp] [.gone] val [.gone])(h2:∀u w,zs_ Tryz.prog f [.ptr 1 []] [.gone,zEB u w] val [.gone,zEB u w]):zi_ Tryz.prog f (sNil val):=by
 refine⟨zg_ hf,fun args h m c v rd wr hs hm hc w0 M β h' w R hrd hwr hst=>?_⟩
 unfold sNil at hs
 split at hs
 ·simp only[Option.some.injEq,Prod.mk.injEq]at hs
  obtain⟨rfl,rfl,rfl,rfl⟩:=hs
  exact bun_ok (h:=h) (m:=m) [0] h1 R rfl (by simp) rfl rfl rfl
   ⟨Fit.gone (by rw[R.nil0];rfl),trivial⟩ hm (fun p hp=>by cases hp) (by simp) rfl
   ⟨trivial,trivial⟩ (by simp[ze_,zc_]) ⟨trivial,trivial⟩ (hv _ rfl) rfl (hr _ rfl) rfl
 ·rename_i g
  split at hs
  ·rename_i t u w1 hg
   obtain⟨hb,hs⟩:=zl_ hs
   simp only[Option.some.injEq,Prod.mk.injEq]at hs
   obtain⟨rfl,rfl,rfl,rfl⟩:=hs
   simp only[Bool.and_eq_true]at hb
   obtain⟨b1,hnd⟩:=hb
   have b1:=Nat.eq_of_beq_eq_true b1
   subst b1
   have eg:=hrd g (by simp)
   exact bun_ok (h:=h) (m:=m) [0,g] (h2 u w1) R rfl (by simp) rfl rfl hnd (nil_bun (eg.trans hg) R.nil0) hm (fun p hp=>by cases hp) (by simp) rfl
    ⟨trivial,zEB_st,trivial⟩ ⟨rfl,trivial⟩ ⟨trivial,zEB_st,trivial⟩ (hv _ rfl) rfl (hr _ rfl) rfl
  ·cases hs
 ·cases hs
def sNilN (val:SV):yn_:=fun args h m=>match args with
 | [.nilp,.int .i64 n]=>some (True,val,[],[])
 | [.ptr g [],.int .i64 n]=>match h g with
  | .own t (.agg [.nilp,.nilf,.nat .i64 u,.bool w]) true=>bif Nat.beq t 52 && z3_ [0,g] then some (True,val,[g],[(g,zEB u w)])else none
  | _=>none
 | _=>none
theorem sNilN_ok {f:FuncId}{val:SV}(hf:named Tryz.prog f=true)(hr:∀ρ : Nat→Nat,ρ 0=0→val.ren ρ = val)(hv:∀h:HM,(h 0).born=true→zc_ h val)(h1:∀n:Int,zs_ Tryz.prog f [.nilp,.int .i64 n] [.gone] val [.gone])(h2:∀(n:Int) u w,zs_ Tryz.prog f [.ptr 1 [],.int .i64 n] [.gone,zEB u w] val [.gone,zEB u w]):zi_ Tryz.prog f (sNilN val):=by
 refine⟨zg_ hf,fun args h m c v rd wr hs hm hc w0 M β h' w R hrd hwr hst=>?_⟩
 unfold sNilN at hs
 split at hs
 ·rename_i n
  simp only[Option.some.injEq,Prod.mk.injEq]at hs
  obtain⟨rfl,rfl,rfl,rfl⟩:=hs
  exact bun_ok (h:=h) (m:=m) [0] (h1 n) R rfl (by simp) rfl rfl rfl
   ⟨Fit.gone (by rw[R.nil0];rfl),trivial⟩ hm (fun p hp=>by cases hp) (by simp) rfl
   ⟨trivial,trivial⟩ (by simp[ze_,zc_]) ⟨trivial,trivial⟩ (hv _ rfl) rfl (hr _ rfl) rfl
 ·rename_i g n
  split at hs
  ·rename_i t u w1 hg
   obtain⟨hb,hs⟩:=zl_ hs
   simp only[Option.some.injEq,Prod.mk.injEq]at hs
   obtain⟨rfl,rfl,rfl,rfl⟩:=hs
   simp only[Bool.and_eq_true]at hb
   obtain⟨b1,hnd⟩:=hb
   have b1:=Nat.eq_of_beq_eq_true b1
   subst b1
   have eg:=hrd g (by simp)
   exact bun_ok (h:=h) (m:=m) [0,g] (h2 n u w1) R rfl (by simp) rfl rfl hnd (nil_bun (eg.trans hg) R.nil0) hm (fun p hp=>by cases hp) (by simp) rfl
    ⟨trivial,zEB_st,trivial⟩ ⟨rfl,trivial,trivial⟩ ⟨trivial,zEB_st,trivial⟩ (hv _ rfl) rfl (hr _ rfl) rfl
  ·cases hs
 ·cases hs
def cNl0:FuncId→Option yn_:=y9_ []
theorem cNl0_ok:∀f S,cNl0 f=some S→zi_ Tryz.prog f S:=fun f S h=>by cases h
theorem none1_lit:zs_ Tryz.prog 51 [.nilp] [.gone] (.bool true) [.gone]:=by
 refine zf_ (fn:=Tryz.f51) 1 12 0 rfl rfl rfl rfl rfl (by simp only[ze_,zc_,hp,zp_,prS,yu_,zo_,sndS,stS,evS,macS,zE,zEB,HB.stable];simp[HB.born]) rfl fun w0 M E hro=>?_
 repeat' (first|refine Ctl.h ?_ |((with_reducible intro hif);first |(focus (cases hif;done)) |((try simp only[JH]at hif);try exact hy_)) |((with_reducible first|apply J22 cNl0_ok za_|apply J23 fol cNl0_ok za_|apply J24);(·rfl);(· (simp only[push_cast,↓JP,Nat.reduceAdd,Nat.reduceEqDiff,Nat.reduceLT,Nat.reduceMul,Nat.reduceLeDiff,reduceCtorEq,reduceIte,↓JK,cNl0,inR,inN];rfl));(try kernel_rfl);try exact k15_)|fail)
 apply At.endsRet za_ (fn:=Tryz.f51) (rs:=[.tmp 2]) Anc.refl hro (lb_ rfl) rfl
 ·exact yl_
 ·exact k6_
 ·exact k7_
 ·rfl
 ·exact k185_
 ·exact k9_
 ·exact fun β=>rfl
 ·exact k185_
theorem none2_lit (u:Nat)(w:Bool):zs_ Tryz.prog 51 [.ptr 1 []] [.gone,zEB u w] (.bool true) [.gone,zEB u w]:=by
 refine zf_ (fn:=Tryz.f51) 2 12 0 rfl rfl rfl rfl rfl u26_ rfl fun w0 M E hro=>?_
 repeat' (first|refine Ctl.h ?_ |((with_reducible intro hif);first |(focus (cases hif;done)) |((try simp only[JH]at hif);try exact hy_)) |((with_reducible first|apply J22 cNl0_ok za_|apply J23 fol cNl0_ok za_|apply J24);(·rfl);(· (simp only[push_cast,↓JP,Nat.reduceAdd,Nat.reduceEqDiff,Nat.reduceLT,Nat.reduceMul,Nat.reduceLeDiff,reduceCtorEq,reduceIte,↓JK,cNl0,zEB,zE,inR,inN];rfl));(try kernel_rfl);try exact k15_)|fail)
 apply At.endsRet za_ (fn:=Tryz.f51) (rs:=[.tmp 2]) Anc.refl hro (lb_ rfl) rfl
 ·exact yl_
 ·exact k6_
 ·exact k7_
 ·rfl
 ·exact k185_
 ·exact k9_
 ·exact fun β=>rfl
 ·exact k185_
def sRNone:yn_:=sNil (.bool true)
theorem sRNone_ok:zi_ Tryz.prog 51 sRNone:=sNil_ok (by kernel_rfl) (fun _ _=>rfl) (fun _ _=>trivial) none1_lit none2_lit
def cNl:FuncId→Option yn_:=y9_ [(51,sRNone)]
theorem cNl_ok:∀f S,cNl f=some S→zi_ Tryz.prog f S:=zr_ ⟨sRNone_ok,trivial⟩
theorem zBack0_lit:zs_ Tryz.prog 16 [.nilp] [.gone] (.nat .i64 1) [.gone]:=by
 refine zf_ (fn:=Tryz.f16) 1 26 0 rfl rfl rfl rfl rfl u26_ rfl fun w0 M E hro=>?_
 repeat' (first|refine Ctl.h ?_ |((with_reducible intro hif);first |(focus (cases hif;done)) |((try simp only[JH]at hif);try exact hy_)) |((with_reducible first|apply J22 cNl_ok za_|apply J23 fol cNl_ok za_|apply J24);(·rfl);(· exact k188_);(try kernel_rfl);try exact k15_)|fail)
 apply At.endsRet za_ (fn:=Tryz.f16) (rs:=[.tmp 2]) Anc.refl hro (lb_ rfl) rfl
 ·exact k186_
 ·exact k6_
 ·exact k7_
 ·rfl
 ·exact k185_
 ·exact k9_
 ·exact fun β=>rfl
 ·exact k185_
theorem zBack1_lit (u:Nat)(w:Bool):zs_ Tryz.prog 16 [.ptr 1 []] [.gone,zEB u w] (.nat .i64 1) [.gone,zEB u w]:=by
 refine zf_ (fn:=Tryz.f16) 2 26 0 rfl rfl rfl rfl rfl u26_ rfl fun w0 M E hro=>?_
 repeat' (first|refine Ctl.h ?_ |((with_reducible intro hif);first |(focus (cases hif;done)) |((try simp only[JH]at hif);try exact hy_)) |((with_reducible first|apply J22 cNl_ok za_|apply J23 fol cNl_ok za_|apply J24);(·rfl);(· exact k188_);(try kernel_rfl);try exact k15_)|fail)
 apply At.endsRet za_ (fn:=Tryz.f16) (rs:=[.tmp 2]) Anc.refl hro (lb_ rfl) rfl
 ·exact k186_
 ·exact k6_
 ·exact k7_
 ·rfl
 ·exact k185_
 ·exact k9_
 ·exact fun β=>rfl
 ·exact k185_
def sZBack:yn_:=sNil (.nat .i64 1)
theorem sZBack_ok:zi_ Tryz.prog 16 sZBack:=sNil_ok (by kernel_rfl) (fun _ _=>rfl) (fun _ _=>by simp[zc_,ze_]) zBack0_lit zBack1_lit
theorem zUsed0_lit:zs_ Tryz.prog 19 [.nilp] [.gone] (.nat .i64 0) [.gone]:=by
 refine zf_ (fn:=Tryz.f19) 1 9 0 rfl rfl rfl rfl rfl u26_ rfl fun w0 M E hro=>?_
 repeat' (first|refine Ctl.h ?_ |((with_reducible intro hif);first |(focus (cases hif;done)) |((try simp only[JH]at hif);try exact hy_)) |((with_reducible first|apply J22 cNl_ok za_|apply J23 fol cNl_ok za_|apply J24);(·rfl);(· exact k188_);(try kernel_rfl);try exact k15_)|fail)
 apply At.endsRet za_ (fn:=Tryz.f19) (rs:=[.tmp 2]) Anc.refl hro (lb_ rfl) rfl
 ·exact k186_
 ·exact k6_
 ·exact k7_
 ·rfl
 ·exact k185_
 ·exact k9_
 ·exact fun β=>rfl
 ·exact k185_
theorem zUsed1_lit (u:Nat)(w:Bool):zs_ Tryz.prog 19 [.ptr 1 []] [.gone,zEB u w] (.nat .i64 0) [.gone,zEB u w]:=by
 refine zf_ (fn:=Tryz.f19) 2 9 0 rfl rfl rfl rfl rfl u26_ rfl fun w0 M E hro=>?_
 repeat' (first|refine Ctl.h ?_ |((with_reducible intro hif);first |(focus (cases hif;done)) |((try simp only[JH]at hif);try exact hy_)) |((with_reducible first|apply J22 cNl_ok za_|apply J23 fol cNl_ok za_|apply J24);(·rfl);(· exact k188_);(try kernel_rfl);try exact k15_)|fail)
 apply At.endsRet za_ (fn:=Tryz.f19) (rs:=[.tmp 2]) Anc.refl hro (lb_ rfl) rfl
 ·exact k186_
 ·exact k6_
 ·exact k7_
 ·rfl
 ·exact k185_
 ·exact k9_
 ·exact fun β=>rfl
 ·exact k185_
def sZUsed:yn_:=sNil (.nat .i64 0)
theorem sZUsed_ok:zi_ Tryz.prog 19 sZUsed:=sNil_ok (by kernel_rfl) (fun _ _=>rfl) (fun _ _=>by simp[zc_,ze_]) zUsed0_lit zUsed1_lit
theorem zState0_lit:zs_ Tryz.prog 18 [.nilp] [.gone] zSt [.gone]:=by
 refine zf_ (fn:=Tryz.f18) 1 11 0 rfl rfl rfl rfl rfl u26_ rfl fun w0 M E hro=>?_
 repeat' (first|refine Ctl.h ?_ |((with_reducible intro hif);first |(focus (cases hif;done)) |((try simp only[JH]at hif);try exact hy_)) |((with_reducible first|apply J22 cNl_ok za_|apply J23 fol cNl_ok za_|apply J24);(·rfl);(· exact k188_);(try kernel_rfl);try exact k15_)|fail)
 apply At.endsRet za_ (fn:=Tryz.f18) (rs:=[.cell 2 60]) Anc.refl hro (lb_ rfl) rfl
 ·exact k186_
 ·exact k6_
 ·exact k7_
 ·rfl
 ·exact k185_
 ·exact k9_
 ·exact fun β=>rfl
 ·exact k185_
theorem zState1_lit (u:Nat)(w:Bool):zs_ Tryz.prog 18 [.ptr 1 []] [.gone,zEB u w] zSt [.gone,zEB u w]:=by
 refine zf_ (fn:=Tryz.f18) 2 11 0 rfl rfl rfl rfl rfl u26_ rfl fun w0 M E hro=>?_
 repeat' (first|refine Ctl.h ?_ |((with_reducible intro hif);first |(focus (cases hif;done)) |((try simp only[JH]at hif);try exact hy_)) |((with_reducible first|apply J22 cNl_ok za_|apply J23 fol cNl_ok za_|apply J24);(·rfl);(· exact k188_);(try kernel_rfl);try exact k15_)|fail)
 apply At.endsRet za_ (fn:=Tryz.f18) (rs:=[.cell 2 60]) Anc.refl hro (lb_ rfl) rfl
 ·exact k186_
 ·exact k6_
 ·exact k7_
 ·rfl
 ·exact k185_
 ·exact k9_
 ·exact fun β=>rfl
 ·exact k185_
def sZState:yn_:=sNil zSt
theorem sZState_ok:zi_ Tryz.prog 18 sZState:=sNil_ok (by kernel_rfl) (fun ρ h=>by simp[zSt,SV.ren,renL,h]) (fun h hb=>by simp[zSt,zc_,ze_,hb]) zState0_lit zState1_lit
theorem zGo0_lit (n:Int):zs_ Tryz.prog 15 [.nilp,.int .i64 n] [.gone] (.tup [.bool false,.nat .i64 1]) [.gone]:=by
 refine zf_ (fn:=Tryz.f15) 1 44 0 rfl rfl rfl rfl rfl u26_ rfl fun w0 M E hro=>?_
 repeat' (first|refine Ctl.h ?_ |((with_reducible intro hif);first |(focus (cases hif;done)) |((try simp only[JH]at hif);try exact hy_)) |((with_reducible first|apply J22 cNl_ok za_|apply J23 fol cNl_ok za_|apply J24);(·rfl);(· exact k188_);(try kernel_rfl);try exact k15_)|fail)
 apply At.endsRet za_ (fn:=Tryz.f15) (rs:=[.cell 4 4,.cell 5 43]) Anc.refl hro (lb_ rfl) rfl
 ·exact k186_
 ·exact k6_
 ·exact k7_
 ·rfl
 ·exact k185_
 ·exact k9_
 ·exact fun β=>rfl
 ·exact k185_
theorem zGo1_lit (n:Int)(u:Nat)(w:Bool):zs_ Tryz.prog 15 [.ptr 1 [],.int .i64 n] [.gone,zEB u w] (.tup [.bool false,.nat .i64 1]) [.gone,zEB u w]:=by
 refine zf_ (fn:=Tryz.f15) 2 44 0 rfl rfl rfl rfl rfl u26_ rfl fun w0 M E hro=>?_
 repeat' (first|refine Ctl.h ?_ |((with_reducible intro hif);first |(focus (cases hif;done)) |((try simp only[JH]at hif);try exact hy_)) |((with_reducible first|apply J22 cNl_ok za_|apply J23 fol cNl_ok za_|apply J24);(·rfl);(· exact k188_);(try kernel_rfl);try exact k15_)|fail)
 apply At.endsRet za_ (fn:=Tryz.f15) (rs:=[.cell 4 4,.cell 5 43]) Anc.refl hro (lb_ rfl) rfl
 ·exact k186_
 ·exact k6_
 ·exact k7_
 ·rfl
 ·exact k185_
 ·exact k9_
 ·exact fun β=>rfl
 ·exact k185_
def sZGo:yn_:=sNilN (.tup [.bool false,.nat .i64 1])
theorem sZGo_ok:zi_ Tryz.prog 15 sZGo:=sNilN_ok (by kernel_rfl) (fun _ _=>rfl) (fun _ _=>by simp[zc_,ze_]) zGo0_lit zGo1_lit
def cSmI:FuncId→Option yn_:=y9_ [(44,sEqI64),(53,sEqSnd)]
theorem cSmI_ok:∀f S,cSmI f=some S→zi_ Tryz.prog f S:=zr_ ⟨sEqI64_ok,sEqSnd_ok,trivial⟩
theorem isame18_lit (s t:Sta)(p1 p2 p3 p4:Nat)(h1:s.cells.length≤1000000)(h2:s.sends.length≤1000000)(h3:t.cells.length≤1000000)(h4:t.sends.length≤1000000):zs_ Tryz.prog 17 [.agg [.int .i64 s.at_,.bool s.ended,.arr 8 1 (fun q=>.int .i64 (s.regs q)),.sl 1 2 [] 1 0 s.cells.length (some p1),.int .i64 s.draws,.sl 3 4 [] 3 0 s.sends.length (some p2)],.agg [.int .i64 t.at_,.bool t.ended,.arr 8 1 (fun q=>.int .i64 (t.regs q)),.sl 5 6 [] 1 0 t.cells.length (some p3),.int .i64 t.draws,.sl 7 8 [] 3 0 t.sends.length (some p4)]]
  [.gone,.gone,.ro (.arr s.cells.length 1 (zp_ s.cells)),.gone,.ro (.arr s.sends.length 3 (zo_ s.sends)),.gone,.ro (.arr t.cells.length 1 (zp_ t.cells)),.gone,.ro (.arr t.sends.length 3 (zo_ t.sends))] (.bool (sameB s t)) [.gone]:=by
 refine zf_ (fn:=Tryz.f17) 9 45 0 rfl rfl rfl rfl rfl (by simp only[ze_,zc_,hp,zp_,prS,yu_,zo_,sndS,stS,evS,cB,sB,HB.stable];simp[HB.born]) rfl fun w0 M E hro=>?_
 repeat' (first|refine Ctl.h ?_ |((with_reducible intro hif);first |(focus (cases hif;done)) |((try simp only[JH]at hif);try exact hy_)) |((with_reducible first|apply J22 cSmI_ok za_|apply J23 fol cSmI_ok za_|apply J24);(·rfl);(· (simp only[push_cast,↓JP,Nat.reduceAdd,Nat.reduceEqDiff,Nat.reduceLT,Nat.reduceMul,Nat.reduceLeDiff,reduceCtorEq,reduceIte,↓JK,JM,JE,cSmI,sEqI64,sEqSnd,inR,inN,zu_,zt_,iOf,zb_];rfl));(try kernel_rfl);(try (focus (first|exact True.intro |((try simp only[JE,zb_]);(repeat' (first|exact True.intro|assumption|apply And.intro|rfl|omega|intro _));done) |((try simp only[JS,implies_true,forall_const,yc_,z7_,x4_,inR,inN]);(repeat' (first|assumption|exact True.intro|omega|apply And.intro));done)))))|fail)
 apply At.endsRet za_ (fn:=Tryz.f17) (rs:=[.tmp 4]) Anc.refl hro (lb_ rfl) rfl
 ·exact yl_
 ·exact k6_
 ·exact k7_
 ·rfl
 ·exact k187_
 ·exact k9_
 ·(intro β;simp only[resS,SV.den,sameB,regsB,eqL];refine congrArg Value.bool ?_;rw[Bool.eq_iff_iff];simp only[Bool.and_eq_true,decide_eq_true_eq,beq_iff_eq,and_assoc];exact⟨fun⟨a,b,c0,c1,c2,c3,c4,c5,c6,c7,d,e,f⟩=>⟨a,b,of_decide_eq_true c0,of_decide_eq_true c1,of_decide_eq_true c2,of_decide_eq_true c3,of_decide_eq_true c4,of_decide_eq_true c5,of_decide_eq_true c6,of_decide_eq_true c7,d,e,f⟩,fun⟨a,b,c0,c1,c2,c3,c4,c5,c6,c7,d,e,f⟩=>⟨a,b,decide_eq_true c0,decide_eq_true c1,decide_eq_true c2,decide_eq_true c3,decide_eq_true c4,decide_eq_true c5,decide_eq_true c6,decide_eq_true c7,d,e,f⟩⟩)
 ·exact k187_
def sISm:yn_:=fun args h m=>match args with
 | [.agg [v1,.bool v2,.arr 8 1 v3,v4,v5,v6],.agg [v7,.bool v8,.arr 8 1 v9,v10,v11,v12]]=>match xm_ h 1 (.tup []) v4,xm_ h 3 (.tup []) v6,xm_ h 1 (.tup []) v10,xm_ h 3 (.tup []) v12 with
  | some (c4,n4,f4,r4),some (c6,n6,f6,r6),some (c10,n10,f10,r10),some (c12,n12,f12,r12)=>bif isI .i64 v1 && isI .i64 v5 && isI .i64 v7 && isI .i64 v11 then some (c4∧c6∧c10∧c12∧(∀q,q < n4→isI .i64 (f4 q)=true)∧(∀q,q < n6→isSnd (f6 q)=true)∧(∀q,q < n10→isI .i64 (f10 q)=true)∧(∀q,q < n12→isSnd (f12 q)=true)∧(∀q,q < 8→isI .i64 (v3 q)=true)∧(∀q,q < 8→isI .i64 (v9 q)=true)∧(n4≤1000000)∧(n6≤1000000)∧(n10≤1000000)∧(n12≤1000000),.bool (sameB ⟨(iOf v1),v2,(fun q=>iOf (v3 q)),(ls iOf n4 f4),(iOf v5),(ls zw_ n6 f6)⟩ ⟨(iOf v7),v8,(fun q=>iOf (v9 q)),(ls iOf n10 f10),(iOf v11),(ls zw_ n12 f12)⟩),r4++r6++r10++r12,[])else none
  | _,_,_,_=>none
 | _=>none
theorem sISm_ok:zi_ Tryz.prog 17 sISm:=by
 refine⟨zg_ (by kernel_rfl),fun args h m c v rd wr hs hm hc w0 M β h' w R hrd hwr hst=>?_⟩
 unfold sISm at hs
 split at hs
 ·rename_i v1 v2 v3 v4 v5 v6 v7 v8 v9 v10 v11 v12
  split at hs
  ·rename_i c4 n4 f4 r4 c6 n6 f6 r6 c10 n10 f10 r10 c12 n12 f12 r12 a4 a6 a10 a12
   obtain⟨hb,hs⟩:=zl_ hs
   simp only[Option.some.injEq,Prod.mk.injEq]at hs
   obtain⟨rfl,rfl,rfl,rfl⟩:=hs
   simp only[Bool.and_eq_true]at hb
   obtain⟨⟨⟨b1,b5⟩,b7⟩,b11⟩:=hb
   obtain⟨k4,k6,k10,k12,g4,g6,g10,g12,g3,g9,y1,y2,y3,y4⟩:=hc
   obtain⟨A4,p4,d4,e4,t4⟩:=zh_ R a4 k4 (fun i hi=>hrd i (List.mem_append_left _ (List.mem_append_left _ (List.mem_append_left _ hi)))) (by omega)
   obtain⟨A6,p6,d6,e6,t6⟩:=zh_ R a6 k6 (fun i hi=>hrd i (List.mem_append_left _ (List.mem_append_left _ (List.mem_append_right _ hi)))) (by omega)
   obtain⟨A10,p10,d10,e10,t10⟩:=zh_ R a10 k10 (fun i hi=>hrd i (List.mem_append_left _ (List.mem_append_right _ hi))) (by omega)
   obtain⟨A12,p12,d12,e12,t12⟩:=zh_ R a12 k12 (fun i hi=>hrd i (List.mem_append_right _ hi)) (by omega)
   refine yh_ (views:=[⟨1,(ls iOf n4 f4).length,zp_ (ls iOf n4 f4),A4,p4⟩,⟨3,(ls zw_ n6 f6).length,zo_ (ls zw_ n6 f6),A6,p6⟩,⟨1,(ls iOf n10 f10).length,zp_ (ls iOf n10 f10),A10,p10⟩,⟨3,(ls zw_ n12 f12).length,zo_ (ls zw_ n12 f12),A12,p12⟩]) (isame18_lit ⟨(iOf v1),v2,(fun q=>iOf (v3 q)),(ls iOf n4 f4),(iOf v5),(ls zw_ n6 f6)⟩ ⟨(iOf v7),v8,(fun q=>iOf (v9 q)),(ls iOf n10 f10),(iOf v11),(ls zw_ n12 f12)⟩ p4 p6 p10 p12 (by rw[zb_];exact y1) (by rw[zb_];exact y2) (by rw[zb_];exact y3) (by rw[zb_];exact y4)) ?_ R hm hwr ?_ ?_ ?_
   ·exact d29_
   ·exact d30_
   ·exact k187_
   ·exact k187_
  ·cases hs
 ·cases hs
end Go.Proofs.YtjliakjbdcplcaaGreat.Vm
end
end

import Derived.Test.YtjliakjbdcplcaaGreatQ1
import Derived.Test.YtjliakjbdcplcaaGreatQ5
import Derived.Test.YtjliakjbdcplcaaGreatQ6
import Derived.Test.YtjliakjbdcplcaaGreatQ14
set_option linter.unusedSimpArgs false
set_option linter.unusedVariables false
set_option maxRecDepth 100000
set_option maxHeartbeats 4000000
section
open Go.Proofs.YtjliakjbdcplcaaGreat.Vm Go.RowKit
section
namespace Go.Proofs.YtjliakjbdcplcaaGreat.Vm
open Go.RowKit
def u64S (l:List Int):Nat→SV:=fun q=>.int .u64 (l.getD q 0)
theorem u64S_stable {h:HM}{l:List Int}(q:Nat):zc_ h (u64S l q):=trivial
def uwV (l:List Int):List Value:=l.map fun x=>.int .u64 x
theorem elems_u64 {β : Env}{n:Nat}{f:Nat→SV}(hf:∀q,q < n→isI .u64 (f q)=true):ye_ β 1 n f=uwV (ls iOf n f):=by
 rw[elems_ls (cells:=fun x=>[.int .u64 x]) isI_cl (fun _=>rfl) hf]
 unfold uwV
 rw[List.flatMap_def]
 induction ls iOf n f with
 | nil=>rfl
 | cons x l ih=>simp[ih]
theorem elems_u64S {β : Env}(l:List Int):ye_ β 1 l.length (u64S l)=uwV l:=by
 rw[elems_u64 (fun q _=>rfl),show ls iOf l.length (u64S l)=l from ls_of (g:=iOf) (e:=fun x=>.int .u64 x) (fun _=>rfl) l 0]
theorem viewU64 {w:World}{β : Env}{A:Option Addr}{n cap:Nat}{f:Nat→SV}(hr:xr_ w w.heap.size 1 A n (ye_ β 1 n f))(hn:n≤cap)(hf:∀q,q < n→isI .u64 (f q)=true):(View.mk 1 (ls iOf n f).length (u64S (ls iOf n f)) A cap).Ok w:=
 ⟨fun β'=>by rw[elems_u64S,zb_];rwa [elems_u64 hf]at hr,by rw[zb_];exact hn,fun h q=>u64S_stable q,Nat.succ_pos _⟩
def sRFold:yn_:=fun args _ _=>match args with
 | [a,b]=>bif isI .u64 a && isI .i64 b then some ((0≤iOf a∧iOf a < 18446744073709551616)∧0≤iOf b∧iOf b≤64,.int .u64 (foldI (iOf a) (iOf b)),[],[])else none
 | _=>none
theorem sRFold_ok:zi_ Tryz.prog 160 sRFold:=by
 refine⟨zg_ (by kernel_rfl),fun args h m c v rd wr hs hm hc w0 M β h' w R hrd hwr hst=>?_⟩
 unfold sRFold at hs
 split at hs
 ·rename_i a b
  obtain⟨hb,hs⟩:=zl_ hs
  simp only[Option.some.injEq,Prod.mk.injEq]at hs
  obtain⟨rfl,rfl,rfl,rfl⟩:=hs
  simp only[Bool.and_eq_true]at hb
  obtain⟨b1,b2⟩:=hb
  obtain⟨⟨c1,c2⟩,c3,c4⟩:=hc
  simp only[denL,zd_ b1,zd_ b2]
  exact(rfold_c (iOf a) (iOf b) w c1 c2 c3 c4).mono fun e w' he=>post_read R trivial rfl he.1 he.2
 ·cases hs
def cMx:FuncId→Option yn_:=y9_ [(160,sRFold)]
theorem cMx_ok:∀f S,cMx f=some S→zi_ Tryz.prog f S:=zr_ ⟨sRFold_ok,trivial⟩
theorem mix_lit (x:Int)(h0:0≤x)(h1:x < 18446744073709551616):zs_ Tryz.prog 142 [.int .u64 x] [.gone] (.int .u64 (mixI x)) [.gone]:=by
 obtain⟨m1,hm1⟩:∃m,IntKind.u64.wrap (foldI x 30*13787848793156543929)=m:=⟨_,rfl⟩
 obtain⟨m2,hm2⟩:∃m,IntKind.u64.wrap (foldI m1 27*10723151780598845931)=m:=⟨_,rfl⟩
 have e:mixI x=foldI m2 31:=by rw[mixI,hm1,hm2]
 have b1:=u64_bd (foldI x 30*13787848793156543929)
 have b2:=u64_bd (foldI m1 27*10723151780598845931)
 rw[hm1]at b1
 rw[hm2]at b2
 rw[e]
 refine zf_ (fn:=Tryz.f142) 1 11 0 rfl rfl rfl rfl rfl u6_ rfl fun w0 M E hro=>?_
 repeat' (first|refine Ctl.h ?_ |((with_reducible intro hif);first |(focus (cases hif;done)) |((try simp only[JH]at hif);try exact hy_)) |((with_reducible first|apply J22 cMx_ok za_|apply J23 fol cMx_ok za_|apply J24);(·rfl);(· (simp only[push_cast,↓JP,Nat.reduceAdd,Nat.reduceEqDiff,Nat.reduceLT,Nat.reduceMul,Nat.reduceLeDiff,reduceCtorEq,reduceIte,cMx,sRFold,zu_,zt_,iOf,Int.cast_ofNat_Int,hm1,hm2,inR,inN];rfl));(try kernel_rfl);try exact k36_)|fail)
 apply At.endsRet za_ (fn:=Tryz.f142) (rs:=[.tmp 2]) Anc.refl hro (lb_ rfl) rfl
 ·exact k5_
 ·exact k6_
 ·exact k7_
 ·rfl
 ·exact k64_
 ·exact k9_
 ·exact fun β=>rfl
 ·exact k64_
def sRMix:yn_:=fun args h m=>match args with
 | [v1]=>bif isI .u64 v1 then some ((0≤(iOf v1))∧((iOf v1) < 18446744073709551616),.int .u64 (mixI (iOf v1)),[],[])else none
 | _=>none
theorem sRMix_ok:zi_ Tryz.prog 142 sRMix:=by
 refine⟨zg_ (by kernel_rfl),fun args h m c v rd wr hs hm hc w0 M β h' w R hrd hwr hst=>?_⟩
 unfold sRMix at hs
 split at hs
 ·rename_i v1
  obtain⟨hb,hs⟩:=zl_ hs
  simp only[Option.some.injEq,Prod.mk.injEq]at hs
  obtain⟨rfl,rfl,rfl,rfl⟩:=hs
  have b1:=hb
  obtain⟨y1,y2⟩:=hc
  refine yh_ (views:=[]) (mix_lit (iOf v1) y1 y2) ?_ R hm hwr ?_ ?_ ?_
  ·intro x hx;cases hx
  ·exact d26_
  ·exact k64_
  ·exact k64_
 ·cases hs
def jn1 (x:Int):Int:=mixI (IntKind.u64.wrap (IntKind.u64.wrap (11400714819323198485+x)+IntKind.u64.wrap (0*11400714819323198485)))
def jn2 (x y:Int):Int:=mixI (IntKind.u64.wrap (IntKind.u64.wrap (11400714819323198485+y)+IntKind.u64.wrap (jn1 x*11400714819323198485)))
theorem jn2_key (x y:Int):jn2 x y=keyI x y:=by
 have e:jn1 x=mixI (IntKind.u64.wrap (IntKind.u64.wrap (11400714819323198485+x))):=by
  rw[jn1]
  simp only[wrapU64]
  congr 1
  omega
 rw[jn2,e];rfl
theorem ls1U (f:Nat→SV):ls iOf 1 f=[iOf (f 0)]:=rfl
theorem ls2U (f:Nat→SV):ls iOf 2 f=[iOf (f 0),iOf (f 1)]:=rfl
theorem ls0U (f:Nat→SV):ls iOf 0 f=[]:=rfl
theorem join0_lit (p1:Nat):zs_ Tryz.prog 161 [.sl 1 2 [] 1 0 0 (some p1)] [.gone,.gone,.ro (.arr 0 1 (u64S []))] (.int .u64 0) [.gone]:=by
 refine zf_ (fn:=Tryz.f161) 3 22 0 rfl rfl rfl rfl rfl u6_ rfl fun w0 M E hro=>?_
 repeat' (first|refine Ctl.h ?_ |((with_reducible intro hif);first |(focus (cases hif;done)) |((try simp only[JH]at hif);try exact hy_)) |((with_reducible first|apply J22 cMx_ok za_|apply J23 fol cMx_ok za_|apply J24);(·rfl);(· (simp only[push_cast,↓JP,Nat.reduceAdd,Nat.reduceEqDiff,Nat.reduceLT,Nat.reduceMul,Nat.reduceLeDiff,reduceCtorEq,reduceIte,inR,inN];rfl));(try kernel_rfl);try exact k15_)|fail)
 apply At.endsRet za_ (fn:=Tryz.f161) (rs:=[.tmp 2]) Anc.refl hro (lb_ rfl) rfl
 ·exact k5_
 ·exact k6_
 ·exact k7_
 ·rfl
 ·exact k64_
 ·exact k9_
 ·exact fun β=>rfl
 ·exact k64_
theorem join0_ok (l:List Int)(p1:Nat)(h:l.length=0):zs_ Tryz.prog 161 [.sl 1 2 [] 1 0 l.length (some p1)] [.gone,.gone,.ro (.arr l.length 1 (u64S l))] (.int .u64 0) [.gone]:=by
 obtain rfl:=List.length_eq_zero_iff.mp h
 exact join0_lit p1
def sRJ0:yn_:=fun args h m=>match args with
 | [v1]=>match xm_ h 1 (.tup []) v1 with
  | some (c1,n1,f1,r1)=>some (c1∧(∀q,q < n1→isI .u64 (f1 q)=true)∧((ls iOf n1 f1).length=0),.int .u64 0,r1,[])
  | _=>none
 | _=>none
theorem sRJ0_ok:zi_ Tryz.prog 161 sRJ0:=by
 refine⟨zg_ (by kernel_rfl),fun args h m c v rd wr hs hm hc w0 M β h' w R hrd hwr hst=>?_⟩
 unfold sRJ0 at hs
 split at hs
 ·rename_i v1
  split at hs
  ·rename_i c1 n1 f1 r1 a1
   simp only[Option.some.injEq,Prod.mk.injEq]at hs
   obtain⟨rfl,rfl,rfl,rfl⟩:=hs
   obtain⟨k1,g1,y1⟩:=hc
   obtain⟨A1,p1,d1,e1,t1⟩:=zh_ R a1 k1 (fun i hi=>hrd i hi) (by omega)
   refine yh_ (views:=[⟨1,(ls iOf n1 f1).length,u64S (ls iOf n1 f1),A1,p1⟩]) (join0_ok (ls iOf n1 f1) p1 y1) ?_ R hm hwr ?_ ?_ ?_
   ·exact d36_
   ·exact d28_
   ·exact k64_
   ·exact k64_
  ·cases hs
 ·cases hs
def cJ0:FuncId→Option yn_:=y9_ [(142,sRMix),(161,sRJ0)]
theorem cJ0_ok:∀f S,cJ0 f=some S→zi_ Tryz.prog f S:=zr_ ⟨sRMix_ok,sRJ0_ok,trivial⟩
theorem join1_lit (x:Int)(p1:Nat):zs_ Tryz.prog 161 [.sl 1 2 [] 1 0 1 (some p1)] [.gone,.gone,.ro (.arr 1 1 (u64S [x]))] (.int .u64 (jn1 x)) [.gone]:=by
 obtain⟨m,hm⟩:∃m,IntKind.u64.wrap (IntKind.u64.wrap (11400714819323198485+x)+IntKind.u64.wrap (0*11400714819323198485))=m:=⟨_,rfl⟩
 have b1:=u64_bd (IntKind.u64.wrap (11400714819323198485+x)+IntKind.u64.wrap (0*11400714819323198485))
 rw[hm]at b1
 rw[jn1,hm]
 refine zf_ (fn:=Tryz.f161) 3 22 0 rfl rfl rfl rfl rfl u6_ rfl fun w0 M E hro=>?_
 repeat' (first|refine Ctl.h ?_ |((with_reducible intro hif);first |(focus (cases hif;done)) |((try simp only[JH]at hif);try exact hy_)) |((with_reducible first|apply J22 cJ0_ok za_|apply J23 fol cJ0_ok za_|apply J24);(·rfl);(· (simp only[push_cast,↓JP,Nat.reduceAdd,Nat.reduceEqDiff,Nat.reduceLT,Nat.reduceMul,Nat.reduceLeDiff,reduceCtorEq,reduceIte,cJ0,sRMix,sRJ0,zu_,zt_,iOf,u64S,ls0U,ls1U,Int.cast_ofNat_Int,Int.reduceSub,Int.reduceToNat,Nat.sub_zero,Nat.sub_self,List.getD_cons_zero,List.getD_cons_succ,hm,inR,inN];rfl));(try kernel_rfl);try exact k65_)|fail)
 apply At.endsRet za_ (fn:=Tryz.f161) (rs:=[.tmp 2]) Anc.refl hro (lb_ rfl) rfl
 ·exact k5_
 ·exact k6_
 ·exact k7_
 ·rfl
 ·exact k64_
 ·exact k9_
 ·exact fun β=>rfl
 ·exact k64_
theorem join1_ok (l:List Int)(p1:Nat)(h:l.length=1):zs_ Tryz.prog 161 [.sl 1 2 [] 1 0 l.length (some p1)] [.gone,.gone,.ro (.arr l.length 1 (u64S l))] (.int .u64 (jn1 (l.getD 0 0))) [.gone]:=by
 obtain⟨x,rfl⟩:=List.length_eq_one_iff.mp h
 exact join1_lit x p1
def sRJ1:yn_:=fun args h m=>match args with
 | [v1]=>match xm_ h 1 (.tup []) v1 with
  | some (c1,n1,f1,r1)=>some (c1∧(∀q,q < n1→isI .u64 (f1 q)=true)∧((ls iOf n1 f1).length=1),.int .u64 (jn1 ((ls iOf n1 f1).getD 0 0)),r1,[])
  | _=>none
 | _=>none
theorem sRJ1_ok:zi_ Tryz.prog 161 sRJ1:=by
 refine⟨zg_ (by kernel_rfl),fun args h m c v rd wr hs hm hc w0 M β h' w R hrd hwr hst=>?_⟩
 unfold sRJ1 at hs
 split at hs
 ·rename_i v1
  split at hs
  ·rename_i c1 n1 f1 r1 a1
   simp only[Option.some.injEq,Prod.mk.injEq]at hs
   obtain⟨rfl,rfl,rfl,rfl⟩:=hs
   obtain⟨k1,g1,y1⟩:=hc
   obtain⟨A1,p1,d1,e1,t1⟩:=zh_ R a1 k1 (fun i hi=>hrd i hi) (by omega)
   refine yh_ (views:=[⟨1,(ls iOf n1 f1).length,u64S (ls iOf n1 f1),A1,p1⟩]) (join1_ok (ls iOf n1 f1) p1 y1) ?_ R hm hwr ?_ ?_ ?_
   ·exact d36_
   ·exact d28_
   ·exact k64_
   ·exact k64_
  ·cases hs
 ·cases hs
def cJ1:FuncId→Option yn_:=y9_ [(142,sRMix),(161,sRJ1)]
theorem cJ1_ok:∀f S,cJ1 f=some S→zi_ Tryz.prog f S:=zr_ ⟨sRMix_ok,sRJ1_ok,trivial⟩
theorem join2_lit (x y:Int)(p1:Nat):zs_ Tryz.prog 161 [.sl 1 2 [] 1 0 2 (some p1)] [.gone,.gone,.ro (.arr 2 1 (u64S [x,y]))] (.int .u64 (jn2 x y)) [.gone]:=by
 obtain⟨m,hm⟩:∃m,IntKind.u64.wrap (IntKind.u64.wrap (11400714819323198485+y)+IntKind.u64.wrap (jn1 x*11400714819323198485))=m:=⟨_,rfl⟩
 have b1:=u64_bd (IntKind.u64.wrap (11400714819323198485+y)+IntKind.u64.wrap (jn1 x*11400714819323198485))
 rw[hm]at b1
 rw[jn2,hm]
 refine zf_ (fn:=Tryz.f161) 3 22 0 rfl rfl rfl rfl rfl u6_ rfl fun w0 M E hro=>?_
 repeat' (first|refine Ctl.h ?_ |((with_reducible intro hif);first |(focus (cases hif;done)) |((try simp only[JH]at hif);try exact hy_)) |((with_reducible first|apply J22 cJ1_ok za_|apply J23 fol cJ1_ok za_|apply J24);(·rfl);(· (simp only[push_cast,↓JP,Nat.reduceAdd,Nat.reduceEqDiff,Nat.reduceLT,Nat.reduceMul,Nat.reduceLeDiff,reduceCtorEq,reduceIte,cJ1,sRMix,sRJ1,zu_,zt_,iOf,u64S,ls0U,ls1U,Int.cast_ofNat_Int,Int.reduceSub,Int.reduceToNat,Nat.sub_zero,Nat.sub_self,List.getD_cons_zero,List.getD_cons_succ,hm,inR,inN];rfl));(try kernel_rfl);try exact k65_)|fail)
 apply At.endsRet za_ (fn:=Tryz.f161) (rs:=[.tmp 2]) Anc.refl hro (lb_ rfl) rfl
 ·exact k5_
 ·exact k6_
 ·exact k7_
 ·rfl
 ·exact k64_
 ·exact k9_
 ·exact fun β=>rfl
 ·exact k64_
theorem join2_ok (l:List Int)(p1:Nat)(h:l.length=2):zs_ Tryz.prog 161 [.sl 1 2 [] 1 0 l.length (some p1)] [.gone,.gone,.ro (.arr l.length 1 (u64S l))] (.int .u64 (jn2 (l.getD 0 0) (l.getD 1 0))) [.gone]:=by
 match l,h with
 | [x,y],_=>exact join2_lit x y p1
def sRJ2:yn_:=fun args h m=>match args with
 | [v1]=>match xm_ h 1 (.tup []) v1 with
  | some (c1,n1,f1,r1)=>some (c1∧(∀q,q < n1→isI .u64 (f1 q)=true)∧((ls iOf n1 f1).length=2),.int .u64 (jn2 ((ls iOf n1 f1).getD 0 0) ((ls iOf n1 f1).getD 1 0)),r1,[])
  | _=>none
 | _=>none
theorem sRJ2_ok:zi_ Tryz.prog 161 sRJ2:=by
 refine⟨zg_ (by kernel_rfl),fun args h m c v rd wr hs hm hc w0 M β h' w R hrd hwr hst=>?_⟩
 unfold sRJ2 at hs
 split at hs
 ·rename_i v1
  split at hs
  ·rename_i c1 n1 f1 r1 a1
   simp only[Option.some.injEq,Prod.mk.injEq]at hs
   obtain⟨rfl,rfl,rfl,rfl⟩:=hs
   obtain⟨k1,g1,y1⟩:=hc
   obtain⟨A1,p1,d1,e1,t1⟩:=zh_ R a1 k1 (fun i hi=>hrd i hi) (by omega)
   refine yh_ (views:=[⟨1,(ls iOf n1 f1).length,u64S (ls iOf n1 f1),A1,p1⟩]) (join2_ok (ls iOf n1 f1) p1 y1) ?_ R hm hwr ?_ ?_ ?_
   ·exact d36_
   ·exact d28_
   ·exact k64_
   ·exact k64_
  ·cases hs
 ·cases hs
def cKy:FuncId→Option yn_:=y9_ [(161,sRJ2)]
theorem cKy_ok:∀f S,cKy f=some S→zi_ Tryz.prog f S:=zr_ ⟨sRJ2_ok,trivial⟩
theorem rkey_lit (s p:Int)(h0:0≤p)(h1:p≤65536):zs_ Tryz.prog 143 [.int .u64 s,.int .i64 p] [.gone] (.int .u64 (keyI s p)) [.gone]:=by
 rw[←jn2_key]
 refine zf_ (fn:=Tryz.f143) 1 10 0 rfl rfl rfl rfl rfl u6_ rfl fun w0 M E hro=>?_
 repeat' (first|refine Ctl.h ?_ |((with_reducible intro hif);first |(focus (cases hif;done)) |((try simp only[JH]at hif);try exact hy_)) |((with_reducible first|apply J22 cKy_ok za_|apply J23 fol cKy_ok za_|apply J24);(·rfl);(· (simp only[push_cast,↓JP,Nat.reduceAdd,Nat.reduceEqDiff,Nat.reduceLT,Nat.reduceMul,Nat.reduceLeDiff,reduceCtorEq,reduceIte,cKy,sRJ2,zu_,zt_,iOf,ls2U,Int.cast_ofNat_Int,inR,inN,List.all_cons,List.all_nil];rfl));(try kernel_rfl);(try (focus (first|exact True.intro |((repeat' (first|exact True.intro|apply And.intro|rfl|omega|decide |(intro q hq;match q,hq with | 0,_=>rfl | 1,_=>rfl)));done) |((try simp only[JS,implies_true,forall_const,yc_,z7_,x4_,inR,inN]);(repeat' (first|assumption|exact True.intro|omega|apply And.intro));done)))))|fail)
 apply At.endsRet za_ (fn:=Tryz.f143) (rs:=[.tmp 4]) Anc.refl hro (lb_ rfl) rfl
 ·exact k5_
 ·exact k6_
 ·exact k7_
 ·rfl
 ·exact k64_
 ·exact k9_
 ·exact fun β=>rfl
 ·exact k64_
def sRKey:yn_:=fun args h m=>match args with
 | [v1,v2]=>bif isI .u64 v1 && isI .i64 v2 then some ((0≤(iOf v2))∧((iOf v2)≤65536),.int .u64 (keyI (iOf v1) (iOf v2)),[],[])else none
 | _=>none
theorem sRKey_ok:zi_ Tryz.prog 143 sRKey:=by
 refine⟨zg_ (by kernel_rfl),fun args h m c v rd wr hs hm hc w0 M β h' w R hrd hwr hst=>?_⟩
 unfold sRKey at hs
 split at hs
 ·rename_i v1 v2
  obtain⟨hb,hs⟩:=zl_ hs
  simp only[Option.some.injEq,Prod.mk.injEq]at hs
  obtain⟨rfl,rfl,rfl,rfl⟩:=hs
  simp only[Bool.and_eq_true]at hb
  obtain⟨b1,b2⟩:=hb
  obtain⟨y1,y2⟩:=hc
  refine yh_ (views:=[]) (rkey_lit (iOf v1) (iOf v2) y1 y2) ?_ R hm hwr ?_ ?_ ?_
  ·intro x hx;cases hx
  ·intro β1 hv
   simp only[denL,yb_,ya_,z9_,zx_,zb_,zd_ b1,zd_ b2]
  ·exact k64_
  ·exact k64_
 ·cases hs
def cVa:FuncId→Option yn_:=y9_ [(143,sRKey),(142,sRMix)]
theorem cVa_ok:∀f S,cVa f=some S→zi_ Tryz.prog f S:=zr_ ⟨sRKey_ok,sRMix_ok,trivial⟩
theorem rval_lit (s p i:Int)(h0:0≤p)(h1:p≤65536)(h2:0≤i)(h3:i≤281474976710656):zs_ Tryz.prog 120 [.int .u64 s,.int .i64 p,.int .i64 i] [.gone] (.int .u64 (valueI s p i)) [.gone]:=by
 obtain⟨m,hm⟩:∃m,IntKind.u64.wrap (keyI s p+IntKind.u64.wrap ((i+1)*11400714819323198485))=m:=⟨_,rfl⟩
 have b1:=u64_bd (keyI s p+IntKind.u64.wrap ((i+1)*11400714819323198485))
 rw[hm]at b1
 have e:valueI s p i=mixI m:=by
  rw[valueI,atI,←hm]
  have e1:IntKind.u64.wrap (IntKind.u64.wrap i+1)=i+1:=by simp only[wrapU64];omega
  rw[e1]
 rw[e]
 refine zf_ (fn:=Tryz.f120) 1 16 0 rfl rfl rfl rfl rfl u6_ rfl fun w0 M E hro=>?_
 repeat' (first|refine Ctl.h ?_ |((with_reducible intro hif);first |(focus (cases hif;done)) |((try simp only[JH]at hif);try exact hy_)) |((with_reducible first|apply J22 cVa_ok za_|apply J23 fol cVa_ok za_|apply J24);(·rfl);(· (simp only[push_cast,↓JP,Nat.reduceAdd,Nat.reduceEqDiff,Nat.reduceLT,Nat.reduceMul,Nat.reduceLeDiff,reduceCtorEq,reduceIte,cVa,sRKey,sRMix,zu_,zt_,iOf,nat_one_i,Int.cast_ofNat_Int,hm,inR,inN];rfl));(try kernel_rfl);try exact k65_)|fail)
 apply At.endsRet za_ (fn:=Tryz.f120) (rs:=[.tmp 6]) Anc.refl hro (lb_ rfl) rfl
 ·exact k5_
 ·exact k6_
 ·exact k7_
 ·rfl
 ·exact k64_
 ·exact k9_
 ·exact fun β=>rfl
 ·exact k64_
def sRVal:yn_:=fun args h m=>match args with
 | [v1,v2,v3]=>bif isI .u64 v1 && isI .i64 v2 && isI .i64 v3 then some ((0≤(iOf v2))∧((iOf v2)≤65536)∧(0≤(iOf v3))∧((iOf v3)≤281474976710656),.int .u64 (valueI (iOf v1) (iOf v2) (iOf v3)),[],[])else none
 | _=>none
theorem sRVal_ok:zi_ Tryz.prog 120 sRVal:=by
 refine⟨zg_ (by kernel_rfl),fun args h m c v rd wr hs hm hc w0 M β h' w R hrd hwr hst=>?_⟩
 unfold sRVal at hs
 split at hs
 ·rename_i v1 v2 v3
  obtain⟨hb,hs⟩:=zl_ hs
  simp only[Option.some.injEq,Prod.mk.injEq]at hs
  obtain⟨rfl,rfl,rfl,rfl⟩:=hs
  simp only[Bool.and_eq_true]at hb
  obtain⟨⟨b1,b2⟩,b3⟩:=hb
  obtain⟨y1,y2,y3,y4⟩:=hc
  refine yh_ (views:=[]) (rval_lit (iOf v1) (iOf v2) (iOf v3) y1 y2 y3 y4) ?_ R hm hwr ?_ ?_ ?_
  ·intro x hx;cases hx
  ·intro β1 hv
   simp only[denL,yb_,ya_,z9_,zx_,zb_,zd_ b1,zd_ b2,zd_ b3]
  ·exact k64_
  ·exact k64_
 ·cases hs
def sbV (v n j:Nat):Nat:=v % 2 ^ j*n / 2 ^ j
theorem sbV_zero (v n:Nat):sbV v n 0=0:=by simp[sbV,Nat.mod_one]
theorem sbV_next (v n j:Nat):sbV v n (j+1)=(sbV v n j+(if v.testBit j then n else 0)) / 2:=by
 have hp:0 < 2 ^ j:=Nat.pow_pos (by decide)
 unfold sbV
 rw[mod_next,Nat.add_mul,Nat.pow_succ,←Nat.div_div_eq_div_mul]
 cases v.testBit j
 ·simp
 ·simp only[if_true]
  rw[Nat.add_mul_div_left _ _ hp]
theorem sbV_lt (v n j:Nat)(hn:0 < n):sbV v n j < n:=by
 have hp:0 < 2 ^ j:=Nat.pow_pos (by decide)
 unfold sbV
 rw[Nat.div_lt_iff_lt_mul hp,Nat.mul_comm n]
 exact Nat.mul_lt_mul_of_pos_right (Nat.mod_lt _ hp) hn
theorem below_lit (v n:Nat)(hv:v < 18446744073709551616)(hn0:0 < n)(hn:n≤9223372036854775807):zs_ Tryz.prog 119 [.nat .u64 v,.nat .i64 n] [.gone] (.nat .i64 (sbV v n 64)) [.gone]:=by
 have hz0:=sbV_zero v n
 refine zf_ (fn:=Tryz.f119) 1 24 0 rfl rfl rfl rfl rfl (by simp only[ze_,zc_,hp,zp_];simp[HB.born]) rfl fun w0 M E hro=>?_
 repeat' (first|refine Ctl.h ?_ |((with_reducible intro hif);first |(focus (cases hif;done)) |((try simp only[JH]at hif);try exact hy_)) |((with_reducible first|apply J22 zv_ za_|apply J23 fol zv_ za_|apply J24);(·rfl);(· exact k13_);(try kernel_rfl);try exact yr_)|fail)
 refine WF.loopAt (fun (j:Nat)=>j≤64) (fun (j:Nat)=>[(0,.nat .u64 v),(1,.nat .i64 n),(5,.nat .u64 (sbV v n j)),(6,.nat .i64 j)]) (fun (j:Nat)=>[.gone]) (fun (j:Nat)=>64 - j) 0 (Nat.zero_le _) ?_ ?_ rfl ?_ ?_ rfl ?_
 ·exact k33_
 ·exact k7_
 ·exact k59_
 ·exact k59_
 intro j hj
 have hlt:=sbV_lt v n j hn0
 by_cases hjl:j < 64
 ·have hmn:=sbV_next v n j
  have hb1:=bit_div v j
  have hm1:min j 64=j:=by omega
  cases hc:v.testBit j
  all_goals
   rw[hc]at hmn hb1
   simp only[b2,if_true,Bool.false_eq_true,if_false,Nat.add_zero]at hmn hb1
   repeat' (first|refine Ctl.h ?_ |((with_reducible intro hif);first |(focus (cases hif;done)) |((try simp only[JH]at hif);try exact hy_)) |((with_reducible first|apply J22 zv_ za_|apply J23 fol zv_ za_|apply J24);(·rfl);(· (simp only[push_cast,↓JP,Nat.reduceAdd,Nat.reduceEqDiff,Nat.reduceLT,Nat.reduceMul,Nat.reduceLeDiff,reduceCtorEq,reduceIte,hjl,hm1,hb1,inR,inN,IntKind.bits];rfl));(try kernel_rfl);try exact k37_)|fail)
   refine At.next (j+1) ?_ ?_ ?_ rfl ?_ ?_ rfl
   ·exact⟨by omega,by omega⟩
   ·exact k60_
   ·exact k7_
   ·exact k59_
   ·exact k59_
 ·obtain rfl:j=64:=by omega
  repeat' (first|refine Ctl.h ?_ |((with_reducible intro hif);first |(focus (cases hif;done)) |((try simp only[JH]at hif);try exact hy_)) |((with_reducible first|apply J22 zv_ za_|apply J23 fol zv_ za_|apply J24);(·rfl);(· (simp only[push_cast,↓JP,Nat.reduceAdd,Nat.reduceEqDiff,Nat.reduceLT,Nat.reduceMul,Nat.reduceLeDiff,reduceCtorEq,reduceIte,hjl,inR,inN];rfl));(try kernel_rfl);(try (focus (first|exact True.intro |((repeat' (first|exact True.intro|apply And.intro|omega|decide |(simp only[inN];omega)));done) |((try simp only[JS,implies_true,forall_const,yc_,z7_,x4_,inR,inN]);(repeat' (first|assumption|exact True.intro|omega|apply And.intro));done)))))|fail)
  apply At.endsRet za_ (fn:=Tryz.f119) (rs:=[.tmp 4]) Anc.refl hro (lb_ rfl) rfl
  ·exact k5_
  ·exact k6_
  ·exact k7_
  ·rfl
  ·exact k59_
  ·exact k9_
  ·exact fun β=>rfl
  ·exact k59_
theorem rbelow_ok (v n:Int)(h0:0≤v)(h1:v < 18446744073709551616)(h2:1≤n)(h3:n≤9223372036854775807):zs_ Tryz.prog 119 [.int .u64 v,.int .i64 n] [.gone] (.int .i64 (belowI v n)) [.gone]:=by
 obtain⟨V,rfl⟩:∃V:Nat,v=(V:Int):=⟨v.toNat,by omega⟩
 obtain⟨k,rfl⟩:∃k:Nat,n=(k:Int):=⟨n.toNat,by omega⟩
 have e:belowI (V:Int) (k:Int)=((sbV V k 64:Nat):Int):=by
  have hw:IntKind.u64.wrap (k:Int)=(k:Int):=by rw[wrapU64];omega
  have hs:sbV V k 64=V*k / 18446744073709551616:=by
   have h64:(2:Nat) ^ 64=18446744073709551616:=by decide
   unfold sbV
   rw[h64,Nat.mod_eq_of_lt (by omega)]
  have hl:=sbV_lt V k 64 (by omega)
  have hu:upperI (V:Int) (k:Int)=((sbV V k 64:Nat):Int):=by
   rw[upper_eq _ _ (by omega) (by omega) (by omega) (by omega),hs]
   simp
  rw[belowI,hw,hu,wrap64]
  omega
 rw[e]
 exact below_lit V k (by omega) (by omega) (by omega)
def sRBel:yn_:=fun args h m=>match args with
 | [v1,v2]=>bif isI .u64 v1 && isI .i64 v2 then some ((0≤(iOf v1))∧((iOf v1) < 18446744073709551616)∧(1≤(iOf v2))∧((iOf v2)≤9223372036854775807),.int .i64 (belowI (iOf v1) (iOf v2)),[],[])else none
 | _=>none
theorem sRBel_ok:zi_ Tryz.prog 119 sRBel:=by
 refine⟨zg_ (by kernel_rfl),fun args h m c v rd wr hs hm hc w0 M β h' w R hrd hwr hst=>?_⟩
 unfold sRBel at hs
 split at hs
 ·rename_i v1 v2
  obtain⟨hb,hs⟩:=zl_ hs
  simp only[Option.some.injEq,Prod.mk.injEq]at hs
  obtain⟨rfl,rfl,rfl,rfl⟩:=hs
  simp only[Bool.and_eq_true]at hb
  obtain⟨b1,b2⟩:=hb
  obtain⟨y1,y2,y3,y4⟩:=hc
  refine yh_ (views:=[]) (rbelow_ok (iOf v1) (iOf v2) y1 y2 y3 y4) ?_ R hm hwr ?_ ?_ ?_
  ·intro x hx;cases hx
  ·intro β1 hv
   simp only[denL,yb_,ya_,z9_,zx_,zb_,zd_ b1,zd_ b2]
  ·exact k59_
  ·exact k59_
 ·cases hs
end Go.Proofs.YtjliakjbdcplcaaGreat.Vm
end
end
section
namespace Go.Proofs.YtjliakjbdcplcaaGreat.Vm
open Go.RowKit
theorem viewL_len:∀l:List View,(viewL l).length=2*l.length
 | []=>rfl
 | x::l=>by rw[viewL,List.length_cons,List.length_cons,viewL_len l,List.length_cons];omega
theorem Vd.envTo {β β':Env}:∀{l:List View} {m:Nat},(∀i,m≤i→i < m+2*l.length→β i = β' i)→Vd β m l→Vd β' m l
 | [],_,_,_=>trivial
 | x::l,m,hb,h=>by
  have hl:(x::l).length=l.length+1:=rfl
  refine⟨?_,Vd.envTo (fun i h1 h2=>hb i (by omega) (by omega)) h.2⟩
  rw[←h.1]
  simp only[SV.den,hb m (Nat.le_refl _) (by omega),hb (m+1) (by omega) (by omega)]
theorem callRoV {P:Program}{f:FuncId}{args:List SV}{views:List View}{L1:List HB}{v v' V:SV}{w0 w:World}{M:Nat→Prop}{β : Env}{h h':HM}{m:Nat}{vals:List Value}(H:zs_ P f args (.gone::viewL views) v L1)(hok:∀x∈views,x.Ok w)(R:Rep w0 M β h' w)(hm:∀i,m≤i→h i=.dead)
  (hwr:∀p∈newB (rho ((viewL views).length+1) m) m (L1.drop ((viewL views).length+1)),h' p.1=h p.1)
  (hargs:∀β1:Env,Vd β1 1 views→denL β1 args=vals) (hnew:NewL (hN ((viewL views).length+1) L1) (L1.drop ((viewL views).length+1))) (hv:zc_ (hN ((viewL views).length+1) L1) v')
  (hVs:∀h2:HM,(∀i,(h' i).born=true→(h2 i).born=true)→zc_ h2 (v'.ren (rho ((viewL views).length+1) m))→zc_ h2 V)
  (hV:∀β2 β':Env,Vd β2 1 views→v'.den β2=(v'.ren (rho ((viewL views).length+1) m)).den β'→(∀i,(h' i).born=true→β i = β' i)→v.den β2=V.den β') :
  Calls P f vals.toArray w fun e w'=>∃β',(∀i,(h' i).born=true→β i = β' i)∧Rep w0 M β' (wrs h' (newB (rho ((viewL views).length+1) m) m (L1.drop ((viewL views).length+1)))) w'∧zc_ (wrs h' (newB (rho ((viewL views).length+1) m) m (L1.drop ((viewL views).length+1)))) V∧e=.returned (V.den β'):=by
 obtain⟨β1,a1,R0,d1⟩:=handedAll views hok (start w)
 rw[←hargs β1 d1]
 refine(H w _ β1 w R0).mono fun e w' ⟨β2,k1,R2,k3,k4⟩=>?_
 have hdead:∀i,m≤i→i < m+(L1.length - ((viewL views).length+1))→h' i=.dead:=fun i hi hlt=>by
  obtain⟨b,hb⟩:=newB_mem (ρ:=rho ((viewL views).length+1) m) (l:=L1.drop ((viewL views).length+1)) hi (by rw[List.length_drop];exact hlt)
  exact(hwr _ hb).trans (hm i hi)
 obtain⟨β',g1,g2,g3,g4⟩:=graftRo R R2 (Nat.succ_pos _) hdead (newL_spec hnew) hv
 have d2:Vd β2 1 views:=d1.envTo fun i h1 h2=>k1 i (by rw[List.length_cons,viewL_len];omega)
 refine⟨β',g1,g2,hVs _ (fun i hi=>?_) g3,by rw[k4,hV β2 β' d2 g4 g1]⟩
 rw[wrs_newB,if_neg]
 ·exact hi
 ·intro ⟨h1,h2⟩
  rw[List.length_drop]at h2
  rw[hdead i h1 h2]at hi
  cases hi
end Go.Proofs.YtjliakjbdcplcaaGreat.Vm
end

import Derived.Test.YtjliakjbdcplcaaGreatQ1
import Derived.Test.YtjliakjbdcplcaaGreatQ7
import Derived.Test.YtjliakjbdcplcaaGreatQ9
set_option linter.unusedSimpArgs false
set_option linter.unusedVariables false
set_option maxRecDepth 100000
set_option maxHeartbeats 4000000
section
namespace Go.Proofs.YtjliakjbdcplcaaGreat.Vm
open Go.RowKit
def PickF (σ : Nat→Nat)(φ : Fr):Fr→Prop
 | []=>True
 | p::l=>(∃u,look φ p.1=some u∧∀β,u.den β =(p.2.ren σ).den β)∧PickF σ φ l
theorem pickF_spec {σ : Nat→Nat}{φ : Fr}:∀{φ2:Fr},PickF σ φ φ2→∀p∈φ2,∃u,look φ p.1=some u∧∀β,u.den β =(p.2.ren σ).den β
 | [],_,p,hp=>by cases hp
 | q::l,h,p,hp=>by
  rcases List.mem_cons.1 hp with rfl|hp
  ·exact h.1
  ·exact pickF_spec h.2 p hp
section
variable {w0:World} {M:Nat→Prop} {E:Env} {n0 N:Nat} {D:List Deferred} {φ φ2:Fr} {L L2:List HB}
theorem St.pick {a:Act}{w:World}(l:List Nat)(h:St w0 M E n0 N D φ L a w)(h00:l.getD 0 0=0)(hz:hp L2 0=.gone)(hid:idTo n0 l=true)(hpk:PickL (sg l) (hp L) L2 l)(hinj:injL L2 l []=true)(hs:xo_ (hp L2) L2)(hφ : PickF (sg l) φ φ2)(hf:StableF (hp L2) φ2)(hb:bornTo n0 L2=true):St w0 M E n0 N D φ2 L2 a w:=by
 obtain⟨⟨β,hE,R,F⟩,_,h3,h4⟩:=h
 refine⟨⟨fun i=>β (sg l i),fun i hi=>?_,R.pick h00 hz hpk hinj hs,fun t v hv=>?_⟩,fun i hi=>?_,h3,h4⟩
 ·exact d24_
 ·have hm:=look_mem hv
  obtain⟨u,h1,h2⟩:=pickF_spec hφ _ hm
  have hst:=stableF_spec hf _ hm
  refine⟨hst,?_⟩
  rw[(F t u h1).2,h2]
  exact den_ren (h:=hp L2) (fun _ _=>rfl) hst
 ·simp only[bornTo,List.all_eq_true]at hb
  exact hb i (List.mem_range.2 hi)
theorem At.nextPick {α : Type}{p:α→Prop}{φi:α→Fr}{Li:α→List HB}(l:List Nat)(y:α)(hy:p y)(h00:l.getD 0 0=0)(hz:hp (Li y) 0=.gone)(hid:idTo n0 l=true)(hpk:PickL (sg l) (hp L) (Li y) l)(hinj:injL (Li y) l []=true)(hs:xo_ (hp (Li y)) (Li y))(hφ : PickF (sg l) φ (φi y))(hf:StableF (hp (Li y)) (φi y))(hb:bornTo n0 (Li y)=true):At w0 M E n0 N D φ L (fun a w=>∃y,p y∧St w0 M E n0 N D (φi y) (Li y) a w):=
 fun a w hS=>⟨y,hy,hS.pick l h00 hz hid hpk hinj hs hφ hf hb⟩
theorem At.pick {K:Act→World→Prop}(l:List Nat)(h00:l.getD 0 0=0)(hz:hp L2 0=.gone)(hid:idTo n0 l=true)(hpk:PickL (sg l) (hp L) L2 l)(hinj:injL L2 l []=true)(hs:xo_ (hp L2) L2)(hφ : PickF (sg l) φ φ2)(hf:StableF (hp L2) φ2)(hb:bornTo n0 L2=true)(h:At w0 M E n0 N D φ2 L2 K):At w0 M E n0 N D φ L K:=
 fun a w hS=>h a w (hS.pick l h00 hz hid hpk hinj hs hφ hf hb)
end
end Go.Proofs.YtjliakjbdcplcaaGreat.Vm
end
section
open Go.Proofs.YtjliakjbdcplcaaGreat.Vm Go.RowKit
section
namespace Go.Proofs.YtjliakjbdcplcaaGreat.Vm
open Go.RowKit
def bO (l:List Int):HB:=.own 3 (.arr l.length 1 (zp_ l)) false
theorem nilB_cl {β : Env}{x:Nat}(h0:β 0=(none,0))(hx:β x=(none,0))(k:Nat):(SV.sl x x [] k 0 0 none).den β =(SV.sl 0 0 [] 0 0 0 (some 0)).den β:=by
 simp[SV.den,h0,hx]
theorem less_apB {t n:Nat}{σ : Nat→Nat}(S:List Int)(x:Int){U:List Int}(hn:S.length=n)(hU:S++[x]=U){g:Nat→SV}{xv z:SV}(hg:g=fun q=>SV.ite (decide (q < n)) (zp_ S q) ([xv].getD (q - n) z))(hx:∀β,xv.cl β = [.int .i64 x]) :
  Less (.own t (.arr (n+1) 1 g) false) ((HB.own t (.arr (n+1) 1 (zp_ U)) false).ren σ):=by
 subst hU
 have e:(HB.own t (.arr (n+1) 1 (zp_ (S++[x]))) false).ren σ = .own t (.arr (n+1) 1 (zp_ (S++[x]))) false:=rfl
 rw[e]
 refine .val (fun β=>arrCl fun q hq=>?_) (fun n1 k1 f1 e=>by injection e with e1 e2 e3;subst e1 e2;exact⟨_,rfl⟩) (fun n1 k1 f1 e=>by injection e with e1 e2 e3;subst e1 e2;exact⟨_,rfl⟩)
 subst hg hn
 dsimp only
 rw[xk_]
 by_cases h:q < S.length
 ·simp only[h,decide_true,cond_true]
  unfold zp_
  rw[List.getD_eq_getElem?_getD,List.getD_eq_getElem?_getD,List.getElem?_append_left h]
 ·have hq':q=S.length:=by omega
  subst hq'
  simp only[h,decide_false,cond_false,Nat.sub_self,List.getD_cons_zero,hx]
  unfold zp_
  rw[List.getD_eq_getElem?_getD,List.getElem?_append_right (Nat.le_refl _),Nat.sub_self];rfl
theorem take_snB {l:List Int}{k:Nat}(hk:k < l.length):l.take k++[l.getD k 0]=l.take (k+1) :=  d3_
theorem i64S_st (l:List Int)(h:HM)(q:Nat):zc_ h (zp_ l q):=trivial
theorem tm2 (A:Int):A.tmod 2=0↔A % 2=0:=by
 rw[←Int.dvd_iff_tmod_eq_zero,Int.dvd_iff_emod_eq_zero]
theorem td2 {A:Int}(h:A % 2=0):A.tdiv 2=A / 2:=Int.tdiv_eq_ediv_of_dvd (Int.dvd_of_emod_eq_zero h)
theorem tdB {A:Int}(h0:-9223372036854775808≤A)(h1:A≤9223372036854775807):-9223372036854775808≤A.tdiv 2∧A.tdiv 2≤9223372036854775807:=by
 rcases Int.le_total 0 A with h|h
 ·rw[Int.tdiv_eq_ediv_of_nonneg h];omega
 ·have e:A = -(-A):=by omega
  rw[e,Int.neg_tdiv,Int.tdiv_eq_ediv_of_nonneg (by omega)];omega
theorem nat_zero_i:((0:Nat):Int)=0:=rfl
theorem nat_one_i:((1:Nat):Int)=1:=rfl
theorem half_next (a:Int)(j:Nat):a / 2 ^ j / 2=a / 2 ^ (j+1):=by
 rw[Int.pow_succ,Int.ediv_ediv_of_nonneg (Int.pow_nonneg (by decide))]
structure ZB where
 j:Nat
 A:Int
theorem bits_lit (a:Int)(h0:-9223372036854775808≤a)(h1:a≤9223372036854775807):zs_ Tryz.prog 144 [.int .i64 a] [.gone] (.sl 1 1 [] 1 0 (bl (BitVec.ofInt 64 a)).length none) [.gone,bO (bl (BitVec.ofInt 64 a))]:=by
 obtain⟨X,hX⟩:∃X,BitVec.ofInt 64 a=X:=⟨_,rfl⟩
 rw[hX]
 have hlX:=yi_ X
 refine zf_ (fn:=Tryz.f144) 1 22 0 rfl rfl rfl rfl rfl u4_ rfl fun w0 M E hro=>?_
 repeat' (first|refine Ctl.h ?_ |((with_reducible intro hif);first |(focus (cases hif;done)) |((try simp only[JH]at hif);try exact hy_)) |((with_reducible first|apply J22 zv_ za_|apply J23 fol zv_ za_|apply J24);(·rfl);(· exact k13_);(try kernel_rfl);try exact yr_)|fail)
 refine WF.nilFr (φ2:=[(0,.int .i64 a),(3,.sl 1 1 [] 1 0 0 none),(4,.nat .i64 0)]) 3 1 (zp_ []) (fun h q=>i64S_st [] h q) rfl ?_ ?_ ?_
 ·refine⟨⟨_,rfl,fun β _ _=>rfl⟩,⟨_,rfl,fun β h0 hx=>(nilB_cl h0 (show β 1=(none,0) from hx) 1).symm⟩,⟨_,rfl,fun β _ _=>rfl⟩,trivial⟩
 ·simp[StableF,zc_,hp,HB.born]
 simp only[List.cons_append,List.nil_append]
 have hz:Less (.own 3 (.arr 0 1 (zp_ [])) false) (.own 3 (.arr 0 1 (zp_ ((bl X).take 0))) false):=.same _
 refine WF.loopAt (fun (z:ZB)=>z.j≤64∧z.A=a / 2 ^ z.j∧-9223372036854775808≤z.A∧z.A≤9223372036854775807) (fun (z:ZB)=>[(0,.int .i64 z.A),(3,.sl 1 1 [] 1 0 z.j none),(4,.nat .i64 z.j)]) (fun (z:ZB)=>[.gone,.own 3 (.arr z.j 1 (zp_ ((bl X).take z.j))) false]) (fun (z:ZB)=>64 - z.j) ⟨0,a⟩ ⟨Nat.zero_le _,by simp,h0,h1⟩ ?_ ?_ rfl ?_ ?_ rfl ?_
 ·exact we_
 ·exact k7_
 ·exact yq_
 ·exact yq_
 rintro⟨j,A⟩ ⟨hj,hA,b0,b1⟩
 dsimp only at hj hA b0 b1 ⊢
 by_cases hjl:j < 64
 ·have hA':A / 2=a / 2 ^ (j+1):=by rw[hA];exact half_next a j
  have hbit:=bit_ofInt a hjl
  rw[hX,←hA]at hbit
  have hTl:((bl X).take j).length=j:=by rw[List.length_take];omega
  have hU:=take_snB (l:=bl X) (k:=j) (by omega)
  rw[zk_ hjl,hbit]at hU
  by_cases hp:A % 2=0
  ·have ht:A.tmod 2=0:=(tm2 A).2 hp
   have e1:bI (decide (A % 2=1))=0:=by rw[decide_eq_false (by omega)];rfl
   rw[e1]at hU
   have hden:∀β,(SV.int .i64 ((A - 0).tdiv 2)).den β =(SV.int .i64 (A / 2)).den β:=fun β=>by rw[Int.sub_zero,td2 hp]
   repeat' (first|refine Ctl.h ?_ |((with_reducible intro hif);first |(focus (cases hif;done)) |((try simp only[JH]at hif);try exact hy_)) |((with_reducible first|apply J22 zv_ za_|apply J23 fol zv_ za_|apply J24);(·rfl);(· (simp only[push_cast,↓JP,Nat.reduceAdd,Nat.reduceEqDiff,Nat.reduceLT,Nat.reduceMul,Nat.reduceLeDiff,reduceCtorEq,reduceIte,hjl,ht,inR,inN,nat_zero_i,List.all_cons,List.all_nil];rfl));(try kernel_rfl);try exact k34_)|fail)
   refine At.nextPick [0,3] (ZB.mk (j+1) (A / 2)) ?_ rfl rfl rfl ?_ rfl ?_ ?_ ?_ rfl
   ·exact k26_
   ·exact k27_
   ·exact yq_
   ·exact k28_
   ·exact yq_
  ·have ht:¬A.tmod 2=0:=fun h=>hp ((tm2 A).1 h)
   have e1:bI (decide (A % 2=1))=1:=by rw[decide_eq_true (by omega)];rfl
   rw[e1]at hU
   have hden:∀β,(SV.int .i64 ((A - 1).tdiv 2)).den β =(SV.int .i64 (A / 2)).den β:=fun β=>by rw[td2 (by omega),show (A - 1) / 2=A / 2 by omega]
   repeat' (first|refine Ctl.h ?_ |((with_reducible intro hif);first |(focus (cases hif;done)) |((try simp only[JH]at hif);try exact hy_)) |((with_reducible first|apply J22 zv_ za_|apply J23 fol zv_ za_|apply J24);(·rfl);(· (simp only[push_cast,↓JP,Nat.reduceAdd,Nat.reduceEqDiff,Nat.reduceLT,Nat.reduceMul,Nat.reduceLeDiff,reduceCtorEq,reduceIte,hjl,ht,inR,inN,nat_one_i,List.all_cons,List.all_nil];rfl));(try kernel_rfl);try exact k34_)|fail)
   refine At.nextPick [0,3] (ZB.mk (j+1) (A / 2)) ?_ rfl rfl rfl ?_ rfl ?_ ?_ ?_ rfl
   ·exact k26_
   ·exact k27_
   ·exact yq_
   ·exact k28_
   ·exact yq_
 ·obtain rfl:j=64:=by omega
  have hTk:(bl X).take 64=bl X:=List.take_of_length_le (by omega)
  repeat' (first|refine Ctl.h ?_ |((with_reducible intro hif);first |(focus (cases hif;done)) |((try simp only[JH]at hif);try exact hy_)) |((with_reducible first|apply J22 zv_ za_|apply J23 fol zv_ za_|apply J24);(·rfl);(· exact k17_);(try kernel_rfl);try exact yr_)|fail)
  apply At.endsPick [0,1] za_ (fn:=Tryz.f144) (rs:=[.tmp 2]) Anc.refl hro (lb_ rfl) rfl
  ·exact k5_
  ·exact xz_
  ·rfl
  ·rfl
  ·rfl
  ·(repeat' (first|exact trivial|exact .inl rfl|exact .inr (.same _)|exact .inr .loose|exact .inr (.arr (by assumption))|apply And.intro |(simp only[bO,hlX,hTk];exact .inr (.same _))))
  ·rfl
  ·exact yq_
  ·exact k9_
  ·(intro β;rw[hlX];rfl)
  ·exact yq_
def sRBits:yn_:=fun args h m=>match args with
 | [v1]=>bif isI .i64 v1 then some ((-9223372036854775808≤(iOf v1))∧((iOf v1)≤9223372036854775807),.sl m m [] 1 0 (bl (BitVec.ofInt 64 (iOf v1))).length none,[],[(m,bO (bl (BitVec.ofInt 64 (iOf v1))))])else none
 | _=>none
theorem sRBits_ok:zi_ Tryz.prog 144 sRBits:=by
 refine⟨zg_ (by kernel_rfl),fun args h m c v rd wr hs hm hc w0 M β h' w R hrd hwr hst=>?_⟩
 unfold sRBits at hs
 split at hs
 ·rename_i v1
  obtain⟨hb,hs⟩:=zl_ hs
  simp only[Option.some.injEq,Prod.mk.injEq]at hs
  obtain⟨rfl,rfl,rfl,rfl⟩:=hs
  have b1:=hb
  obtain⟨y1,y2⟩:=hc
  refine yh_ (views:=[]) (bits_lit (iOf v1) y1 y2) ?_ R hm hwr ?_ ?_ ?_
  ·intro x hx;cases hx
  ·exact d26_
  ·exact yq_
  ·exact yq_
 ·cases hs
theorem sum_lit (x y:BitVec 64)(c:Bool)(p1 p2:Nat):zs_ Tryz.prog 146 [.sl 1 2 [] 1 0 (bl x).length (some p1),.sl 3 4 [] 1 0 (bl y).length (some p2),.int .i64 (bI c)] [.gone,.gone,.ro (.arr (bl x).length 1 (zp_ (bl x))),.gone,.ro (.arr (bl y).length 1 (zp_ (bl y)))] (.sl 5 5 [] 1 0 (bl (sumV x y c)).length none) [.gone,.gone,.gone,.gone,.gone,bO (bl (sumV x y c))]:=by
 have hlZ:=yi_ (sumV x y c)
 have l1:=yi_ x
 have l2:=yi_ y
 have hc0:∀β,(SV.int .i64 (bI c)).den β =(SV.int .i64 (bI (BitVec.carry 0 x y c))).den β:=fun β=>by rw[carry_zero1]
 refine zf_ (fn:=Tryz.f146) 5 33 0 rfl rfl rfl rfl rfl u4_ rfl fun w0 M E hro=>?_
 repeat' (first|refine Ctl.h ?_ |((with_reducible intro hif);first |(focus (cases hif;done)) |((try simp only[JH]at hif);try exact hy_)) |((with_reducible first|apply J22 zv_ za_|apply J23 fol zv_ za_|apply J24);(·rfl);(· exact k13_);(try kernel_rfl);try exact yr_)|fail)
 refine WF.nilFr (φ2:=[(0,.sl 1 2 [] 1 0 (bl x).length (some p1)),(1,.sl 3 4 [] 1 0 (bl y).length (some p2)),(2,.int .i64 (bI (BitVec.carry 0 x y c))),(7,.sl 5 5 [] 1 0 0 none),(8,.nat .i64 0)]) 3 1 (zp_ []) (fun h q=>i64S_st [] h q) rfl ?_ ?_ ?_
 ·exact k30_
 ·simp[StableF,zc_,hp,HB.born]
 simp only[List.cons_append,List.nil_append]
 have hz:Less (.own 3 (.arr 0 1 (zp_ [])) false) (.own 3 (.arr 0 1 (zp_ ((bl (sumV x y c)).take 0))) false):=.same _
 refine WF.loopAt (fun (j:Nat)=>j≤64) (fun (j:Nat)=>[(0,.sl 1 2 [] 1 0 (bl x).length (some p1)),(1,.sl 3 4 [] 1 0 (bl y).length (some p2)),(2,.int .i64 (bI (BitVec.carry j x y c))),(7,.sl 5 5 [] 1 0 j none),(8,.nat .i64 j)]) (fun (j:Nat)=>[.gone,.gone,.ro (.arr (bl x).length 1 (zp_ (bl x))),.gone,.ro (.arr (bl y).length 1 (zp_ (bl y))),.own 3 (.arr j 1 (zp_ ((bl (sumV x y c)).take j))) false]) (fun (j:Nat)=>64 - j) 0 (Nat.zero_le _) ?_ ?_ rfl ?_ ?_ rfl ?_
 ·exact we_
 ·exact k7_
 ·exact yq_
 ·exact yq_
 intro j hj
 by_cases hjl:j < 64
 ·have hx:=zk_ (x:=x) hjl
  have hy:=zk_ (x:=y) hjl
  have hTl:((bl (sumV x y c)).take j).length=j:=by rw[List.length_take];omega
  have hU:=take_snB (l:=bl (sumV x y c)) (k:=j) (by omega)
  rw[zk_ hjl,sumV_bit hjl]at hU
  have b1:=z8_ (x.getLsbD j)
  have b2:=z8_ (y.getLsbD j)
  have b3:=z8_ (BitVec.carry j x y c)
  have hden:∀β,(SV.int .i64 ((bI (x.getLsbD j)+bI (y.getLsbD j)+bI (BitVec.carry j x y c)).tdiv 2)).den β =(SV.int .i64 (bI (BitVec.carry (j+1) x y c))).den β:=fun β=>by rw[carry_next]
  repeat' (first|refine Ctl.h ?_ |((with_reducible intro hif);first |(focus (cases hif;done)) |((try simp only[JH]at hif);try exact hy_)) |((with_reducible first|apply J22 zv_ za_|apply J23 fol zv_ za_|apply J24);(·rfl);(· exact k35_);(try kernel_rfl);try exact k34_)|fail)
  refine At.nextPick [0,1,2,3,4,7] (j+1) ?_ rfl rfl rfl ?_ rfl ?_ ?_ ?_ rfl
  ·omega
  ·exact k27_
  ·exact yq_
  ·exact k28_
  ·exact yq_
 ·obtain rfl:j=64:=by omega
  have hTk:(bl (sumV x y c)).take 64=bl (sumV x y c):=List.take_of_length_le (by omega)
  repeat' (first|refine Ctl.h ?_ |((with_reducible intro hif);first |(focus (cases hif;done)) |((try simp only[JH]at hif);try exact hy_)) |((with_reducible first|apply J22 zv_ za_|apply J23 fol zv_ za_|apply J24);(·rfl);(· exact k17_);(try kernel_rfl);try exact yr_)|fail)
  apply At.endsPick [0,1,2,3,4,5] za_ (fn:=Tryz.f146) (rs:=[.tmp 6]) Anc.refl hro (lb_ rfl) rfl
  ·exact k5_
  ·exact xz_
  ·rfl
  ·rfl
  ·rfl
  ·exact k31_
  ·rfl
  ·exact yq_
  ·exact k9_
  ·(intro β;rw[hlZ];rfl)
  ·exact yq_
theorem sum_ok (k l:List Int)(c:Int)(p1 p2:Nat)(h1:k=bl (vb k))(h2:l=bl (vb l))(hc:c=0∨c=1):zs_ Tryz.prog 146 [.sl 1 2 [] 1 0 k.length (some p1),.sl 3 4 [] 1 0 l.length (some p2),.int .i64 c] [.gone,.gone,.ro (.arr k.length 1 (zp_ k)),.gone,.ro (.arr l.length 1 (zp_ l))] (.sl 5 5 [] 1 0 (bl (sumV (vb k) (vb l) (decide (c=1)))).length none) [.gone,.gone,.gone,.gone,.gone,bO (bl (sumV (vb k) (vb l) (decide (c=1))))]:=by
 have h:=sum_lit (vb k) (vb l) (decide (c=1)) p1 p2
 rw[←h1,←h2,show bI (decide (c=1))=c by rcases hc with rfl|rfl<;>rfl]at h
 exact h
def sRSum:yn_:=fun args h m=>match args with
 | [v1,v2,v3]=>match xm_ h 1 (.tup []) v1,xm_ h 1 (.tup []) v2 with
  | some (c1,n1,f1,r1),some (c2,n2,f2,r2)=>bif isI .i64 v3 then some (c1∧c2∧(∀q,q < n1→isI .i64 (f1 q)=true)∧(∀q,q < n2→isI .i64 (f2 q)=true)∧((ls iOf n1 f1)=bl (vb (ls iOf n1 f1)))∧((ls iOf n2 f2)=bl (vb (ls iOf n2 f2)))∧(((iOf v3)=0∨(iOf v3)=1)),.sl m m [] 1 0 (bl (sumV (vb (ls iOf n1 f1)) (vb (ls iOf n2 f2)) (decide ((iOf v3)=1)))).length none,r1++r2,[(m,bO (bl (sumV (vb (ls iOf n1 f1)) (vb (ls iOf n2 f2)) (decide ((iOf v3)=1)))))])else none
  | _,_=>none
 | _=>none
theorem sRSum_ok:zi_ Tryz.prog 146 sRSum:=by
 refine⟨zg_ (by kernel_rfl),fun args h m c v rd wr hs hm hc w0 M β h' w R hrd hwr hst=>?_⟩
 unfold sRSum at hs
 split at hs
 ·rename_i v1 v2 v3
  split at hs
  ·rename_i c1 n1 f1 r1 c2 n2 f2 r2 a1 a2
   obtain⟨hb,hs⟩:=zl_ hs
   simp only[Option.some.injEq,Prod.mk.injEq]at hs
   obtain⟨rfl,rfl,rfl,rfl⟩:=hs
   have b3:=hb
   obtain⟨k1,k2,g1,g2,y1,y2,y3⟩:=hc
   obtain⟨A1,p1,d1,e1,t1⟩:=zh_ R a1 k1 (fun i hi=>hrd i (List.mem_append_left _ hi)) (by omega)
   obtain⟨A2,p2,d2,e2,t2⟩:=zh_ R a2 k2 (fun i hi=>hrd i (List.mem_append_right _ hi)) (by omega)
   refine yh_ (views:=[⟨1,(ls iOf n1 f1).length,zp_ (ls iOf n1 f1),A1,p1⟩,⟨1,(ls iOf n2 f2).length,zp_ (ls iOf n2 f2),A2,p2⟩]) (sum_ok (ls iOf n1 f1) (ls iOf n2 f2) (iOf v3) p1 p2 y1 y2 y3) ?_ R hm hwr ?_ ?_ ?_
   ·exact d31_
   ·intro β1 hv
    simp only[Vd,zb_,and_true]at hv
    obtain⟨z1,z2⟩:=hv
    simp only[denL,yb_,ya_,z9_,zx_,zb_,z1,z2,d1,d2,zd_ b3]
   ·exact yq_
   ·exact yq_
  ·cases hs
 ·cases hs
theorem not_lit (x:BitVec 64)(p1:Nat):zs_ Tryz.prog 147 [.sl 1 2 [] 1 0 (bl x).length (some p1)] [.gone,.gone,.ro (.arr (bl x).length 1 (zp_ (bl x)))] (.sl 3 3 [] 1 0 (bl (~~~x)).length none) [.gone,.gone,.gone,bO (bl (~~~x))]:=by
 have hlZ:=yi_ (~~~x)
 have l1:=yi_ x
 refine zf_ (fn:=Tryz.f147) 3 18 0 rfl rfl rfl rfl rfl u4_ rfl fun w0 M E hro=>?_
 repeat' (first|refine Ctl.h ?_ |((with_reducible intro hif);first |(focus (cases hif;done)) |((try simp only[JH]at hif);try exact hy_)) |((with_reducible first|apply J22 zv_ za_|apply J23 fol zv_ za_|apply J24);(·rfl);(· exact k13_);(try kernel_rfl);try exact yr_)|fail)
 refine WF.nilFr (φ2:=[(0,.sl 1 2 [] 1 0 (bl x).length (some p1)),(3,.sl 3 3 [] 1 0 0 none),(4,.nat .i64 0)]) 3 1 (zp_ []) (fun h q=>i64S_st [] h q) rfl ?_ ?_ ?_
 ·refine⟨u1_,⟨_,rfl,fun β h0 hx=>(nilB_cl h0 (show β 3=(none,0) from hx) 1).symm⟩,u1_,trivial⟩
 ·simp[StableF,zc_,hp,HB.born]
 simp only[List.cons_append,List.nil_append]
 have hz:Less (.own 3 (.arr 0 1 (zp_ [])) false) (.own 3 (.arr 0 1 (zp_ ((bl (~~~x)).take 0))) false):=.same _
 refine WF.loopAt (fun (j:Nat)=>j≤64) (fun (j:Nat)=>[(0,.sl 1 2 [] 1 0 (bl x).length (some p1)),(3,.sl 3 3 [] 1 0 j none),(4,.nat .i64 j)]) (fun (j:Nat)=>[.gone,.gone,.ro (.arr (bl x).length 1 (zp_ (bl x))),.own 3 (.arr j 1 (zp_ ((bl (~~~x)).take j))) false]) (fun (j:Nat)=>64 - j) 0 (Nat.zero_le _) ?_ ?_ rfl ?_ ?_ rfl ?_
 ·exact we_
 ·exact k7_
 ·exact yq_
 ·exact yq_
 intro j hj
 by_cases hjl:j < 64
 ·have hx:=zk_ (x:=x) hjl
  have hTl:((bl (~~~x)).take j).length=j:=by rw[List.length_take];omega
  have hU:=take_snB (l:=bl (~~~x)) (k:=j) (by omega)
  have hb:bI ((~~~x).getLsbD j)=1 - bI (x.getLsbD j):=by rw[BitVec.getLsbD_not];simp only[hjl,decide_true,Bool.true_and];cases x.getLsbD j<;>rfl
  rw[zk_ hjl,hb]at hU
  have b1:=z8_ (x.getLsbD j)
  repeat' (first|refine Ctl.h ?_ |((with_reducible intro hif);first |(focus (cases hif;done)) |((try simp only[JH]at hif);try exact hy_)) |((with_reducible first|apply J22 zv_ za_|apply J23 fol zv_ za_|apply J24);(·rfl);(· (simp only[push_cast,↓JP,Nat.reduceAdd,Nat.reduceEqDiff,Nat.reduceLT,Nat.reduceMul,Nat.reduceLeDiff,reduceCtorEq,reduceIte,hjl,hx,zp_,inR,inN,List.all_cons,List.all_nil];rfl));(try kernel_rfl);try exact k36_)|fail)
  refine At.nextPick [0,1,2,5] (j+1) ?_ rfl rfl rfl ?_ rfl ?_ ?_ ?_ rfl
  ·omega
  ·exact k27_
  ·exact yq_
  ·exact k32_
  ·exact yq_
 ·obtain rfl:j=64:=by omega
  have hTk:(bl (~~~x)).take 64=bl (~~~x):=List.take_of_length_le (by omega)
  repeat' (first|refine Ctl.h ?_ |((with_reducible intro hif);first |(focus (cases hif;done)) |((try simp only[JH]at hif);try exact hy_)) |((with_reducible first|apply J22 zv_ za_|apply J23 fol zv_ za_|apply J24);(·rfl);(· exact k17_);(try kernel_rfl);try exact yr_)|fail)
  apply At.endsPick [0,1,2,3] za_ (fn:=Tryz.f147) (rs:=[.tmp 2]) Anc.refl hro (lb_ rfl) rfl
  ·exact k5_
  ·exact xz_
  ·rfl
  ·rfl
  ·rfl
  ·exact k31_
  ·rfl
  ·exact yq_
  ·exact k9_
  ·(intro β;rw[hlZ];rfl)
  ·exact yq_
theorem not_ok (k:List Int)(p1:Nat)(h1:k=bl (vb k)):zs_ Tryz.prog 147 [.sl 1 2 [] 1 0 k.length (some p1)] [.gone,.gone,.ro (.arr k.length 1 (zp_ k))] (.sl 3 3 [] 1 0 (bl (~~~(vb k))).length none) [.gone,.gone,.gone,bO (bl (~~~(vb k)))]:=by
 have h:=not_lit (vb k) p1
 rw[←h1]at h
 exact h
def sRNot:yn_:=fun args h m=>match args with
 | [v1]=>match xm_ h 1 (.tup []) v1 with
  | some (c1,n1,f1,r1)=>some (c1∧(∀q,q < n1→isI .i64 (f1 q)=true)∧((ls iOf n1 f1)=bl (vb (ls iOf n1 f1))),.sl m m [] 1 0 (bl (~~~(vb (ls iOf n1 f1)))).length none,r1,[(m,bO (bl (~~~(vb (ls iOf n1 f1)))))])
  | _=>none
 | _=>none
theorem sRNot_ok:zi_ Tryz.prog 147 sRNot:=by
 refine⟨zg_ (by kernel_rfl),fun args h m c v rd wr hs hm hc w0 M β h' w R hrd hwr hst=>?_⟩
 unfold sRNot at hs
 split at hs
 ·rename_i v1
  split at hs
  ·rename_i c1 n1 f1 r1 a1
   simp only[Option.some.injEq,Prod.mk.injEq]at hs
   obtain⟨rfl,rfl,rfl,rfl⟩:=hs
   obtain⟨k1,g1,y1⟩:=hc
   obtain⟨A1,p1,d1,e1,t1⟩:=zh_ R a1 k1 (fun i hi=>hrd i hi) (by omega)
   refine yh_ (views:=[⟨1,(ls iOf n1 f1).length,zp_ (ls iOf n1 f1),A1,p1⟩]) (not_ok (ls iOf n1 f1) p1 y1) ?_ R hm hwr ?_ ?_ ?_
   ·exact d32_
   ·exact d28_
   ·exact yq_
   ·exact yq_
  ·cases hs
 ·cases hs
theorem mod_next (n j:Nat):n % 2 ^ (j+1)=n % 2 ^ j+(if n.testBit j then 2 ^ j else 0):=by
 rw[Nat.testBit_eq_decide_div_mod_eq,Nat.pow_succ,Nat.mod_mul]
 have h:=Nat.mod_two_eq_zero_or_one (n / 2 ^ j)
 rcases h with h|h
 ·simp[h]
 ·simp[h]
theorem word_lit (x:BitVec 64)(p1:Nat):zs_ Tryz.prog 145 [.sl 1 2 [] 1 0 (bl x).length (some p1)] [.gone,.gone,.ro (.arr (bl x).length 1 (zp_ (bl x)))] (.int .i64 x.toInt) [.gone]:=by
 have l1:=yi_ x
 have hlt:=x.isLt
 have hz0:x.toNat % 2 ^ 0=0:=Nat.mod_one _
 refine zf_ (fn:=Tryz.f145) 3 26 0 rfl rfl rfl rfl rfl u4_ rfl fun w0 M E hro=>?_
 repeat' (first|refine Ctl.h ?_ |((with_reducible intro hif);first |(focus (cases hif;done)) |((try simp only[JH]at hif);try exact hy_)) |((with_reducible first|apply J22 zv_ za_|apply J23 fol zv_ za_|apply J24);(·rfl);(· exact k13_);(try kernel_rfl);try exact yr_)|fail)
 refine WF.loopAt (fun (j:Nat)=>j≤63) (fun (j:Nat)=>[(0,.sl 1 2 [] 1 0 (bl x).length (some p1)),(3,.nat .i64 (x.toNat % 2 ^ j)),(4,.nat .i64 j)]) (fun (j:Nat)=>[.gone,.gone,.ro (.arr (bl x).length 1 (zp_ (bl x)))]) (fun (j:Nat)=>63 - j) 0 (Nat.zero_le _) ?_ ?_ rfl ?_ ?_ rfl ?_
 ·exact k33_
 ·exact k7_
 ·exact yq_
 ·exact yq_
 intro j hj
 have hpl:2 ^ j≤2 ^ 63:=Nat.pow_le_pow_right (by decide) hj
 have hmd:x.toNat % 2 ^ j < 2 ^ j:=Nat.mod_lt _ (Nat.pow_pos (by decide))
 have hmn:=mod_next x.toNat j
 rw[BitVec.testBit_toNat]at hmn
 have h63:(2:Nat) ^ 63=9223372036854775808:=by decide
 by_cases hjl:j < 63
 ·have hpl2:2 ^ (j+1)≤2 ^ 63:=Nat.pow_le_pow_right (by decide) (by omega)
  have hp2:2 ^ (j+1)=2*2 ^ j:=by rw[Nat.pow_succ,Nat.mul_comm]
  have hx:=zk_ (x:=x) (show j < 64 by omega)
  cases hb:x.getLsbD j
  ·rw[hb]at hx hmn
   have hx0:(bl x).getD j 0=0:=hx
   have hm2:x.toNat % 2 ^ (j+1)=x.toNat % 2 ^ j:=by simpa using hmn
   repeat' (first|refine Ctl.h ?_ |((with_reducible intro hif);first |(focus (cases hif;done)) |((try simp only[JH]at hif);try exact hy_)) |((with_reducible first|apply J22 zv_ za_|apply J23 fol zv_ za_|apply J24);(·rfl);(· (simp only[push_cast,↓JP,Nat.reduceAdd,Nat.reduceEqDiff,Nat.reduceLT,Nat.reduceMul,Nat.reduceLeDiff,reduceCtorEq,reduceIte,hjl,hx0,zp_,inR,inN];rfl));(try kernel_rfl);try exact k15_)|fail)
   refine At.next (j+1) ?_ ?_ ?_ rfl ?_ ?_ rfl
   ·exact⟨by omega,by omega⟩
   ·((repeat' (first|exact trivial|apply And.intro))<;>(first|rfl |(rw[hm2];rfl)))
   ·exact k7_
   ·exact yq_
   ·exact yq_
  ·rw[hb]at hx hmn
   have hx1:(bl x).getD j 0=1:=hx
   have hm2:x.toNat % 2 ^ (j+1)=x.toNat % 2 ^ j+1*2 ^ j:=by simpa using hmn
   repeat' (first|refine Ctl.h ?_ |((with_reducible intro hif);first |(focus (cases hif;done)) |((try simp only[JH]at hif);try exact hy_)) |((with_reducible first|apply J22 zv_ za_|apply J23 fol zv_ za_|apply J24);(·rfl);(· (simp only[push_cast,↓JP,Nat.reduceAdd,Nat.reduceEqDiff,Nat.reduceLT,Nat.reduceMul,Nat.reduceLeDiff,reduceCtorEq,reduceIte,hjl,hx1,zp_,inR,inN,IntKind.bits];rfl));(try kernel_rfl);try exact k37_)|fail)
   refine At.next (j+1) ?_ ?_ ?_ rfl ?_ ?_ rfl
   ·exact⟨by omega,by omega⟩
   ·((repeat' (first|exact trivial|apply And.intro))<;>(first|rfl |(rw[hm2];rfl)))
   ·exact k7_
   ·exact yq_
   ·exact yq_
 ·obtain rfl:j=63:=by omega
  have hx:=zk_ (x:=x) (show 63 < 64 by decide)
  have hti:=BitVec.toInt_eq_toNat_cond x
  have h64:(2:Nat) ^ 64=18446744073709551616:=by decide
  have hm64:x.toNat % 2 ^ (63+1)=x.toNat:=Nat.mod_eq_of_lt hlt
  rw[hm64,h63]at hmn
  rw[h64]at hti hlt
  obtain⟨R,hR⟩:∃R,x.toNat % 9223372036854775808=R:=⟨_,rfl⟩
  rw[hR]at hmn
  rw[h63,hR]at hmd
  cases hb:x.getLsbD 63
  ·rw[hb]at hx hmn
   have hx0:(bl x).getD 63 0=0:=hx
   have hm3:x.toNat=R:=by simpa using hmn
   have e:x.toInt=(R:Int):=by rw[hti,if_pos (by omega),hm3]
   rw[e]
   repeat' (first|refine Ctl.h ?_ |((with_reducible intro hif);first |(focus (cases hif;done)) |((try simp only[JH]at hif);try exact hy_)) |((with_reducible first|apply J22 zv_ za_|apply J23 fol zv_ za_|apply J24);(·rfl);(· (simp only[push_cast,↓JP,Nat.reduceAdd,Nat.reduceEqDiff,Nat.reduceLT,Nat.reduceMul,Nat.reduceLeDiff,reduceCtorEq,reduceIte,hjl,hx0,zp_,inR,inN,h63,hR];rfl));(try kernel_rfl);try exact k15_)|fail)
   apply At.endsRet za_ (fn:=Tryz.f145) (rs:=[.tmp 2]) Anc.refl hro (lb_ rfl) rfl
   ·exact k5_
   ·exact k6_
   ·exact k7_
   ·rfl
   ·exact yq_
   ·exact k9_
   ·(intro β;first|rfl |(rw[h63,hR];rfl))
   ·exact yq_
  ·rw[hb]at hx hmn
   have hx1:(bl x).getD 63 0=1:=hx
   have hm3:x.toNat=R+9223372036854775808:=by simpa using hmn
   have e:x.toInt=(R:Int) - 9223372036854775807 - 1:=by rw[hti,if_neg (by omega),hm3];omega
   rw[e]
   repeat' (first|refine Ctl.h ?_ |((with_reducible intro hif);first |(focus (cases hif;done)) |((try simp only[JH]at hif);try exact hy_)) |((with_reducible first|apply J22 zv_ za_|apply J23 fol zv_ za_|apply J24);(·rfl);(· (simp only[push_cast,↓JP,Nat.reduceAdd,Nat.reduceEqDiff,Nat.reduceLT,Nat.reduceMul,Nat.reduceLeDiff,reduceCtorEq,reduceIte,hjl,hx1,zp_,inR,inN,h63,hR];rfl));(try kernel_rfl);try exact k15_)|fail)
   apply At.endsRet za_ (fn:=Tryz.f145) (rs:=[.tmp 2]) Anc.refl hro (lb_ rfl) rfl
   ·exact k5_
   ·exact k6_
   ·exact k7_
   ·rfl
   ·exact yq_
   ·exact k9_
   ·(intro β;first|rfl |(rw[h63,hR];rfl))
   ·exact yq_
theorem word_ok (k:List Int)(p1:Nat)(h1:k=bl (vb k)):zs_ Tryz.prog 145 [.sl 1 2 [] 1 0 k.length (some p1)] [.gone,.gone,.ro (.arr k.length 1 (zp_ k))] (.int .i64 (vb k).toInt) [.gone]:=by
 have h:=word_lit (vb k) p1
 rw[←h1]at h
 exact h
def sRWord:yn_:=fun args h m=>match args with
 | [v1]=>match xm_ h 1 (.tup []) v1 with
  | some (c1,n1,f1,r1)=>some (c1∧(∀q,q < n1→isI .i64 (f1 q)=true)∧((ls iOf n1 f1)=bl (vb (ls iOf n1 f1))),.int .i64 (vb (ls iOf n1 f1)).toInt,r1,[])
  | _=>none
 | _=>none
theorem sRWord_ok:zi_ Tryz.prog 145 sRWord:=by
 refine⟨zg_ (by kernel_rfl),fun args h m c v rd wr hs hm hc w0 M β h' w R hrd hwr hst=>?_⟩
 unfold sRWord at hs
 split at hs
 ·rename_i v1
  split at hs
  ·rename_i c1 n1 f1 r1 a1
   simp only[Option.some.injEq,Prod.mk.injEq]at hs
   obtain⟨rfl,rfl,rfl,rfl⟩:=hs
   obtain⟨k1,g1,y1⟩:=hc
   obtain⟨A1,p1,d1,e1,t1⟩:=zh_ R a1 k1 (fun i hi=>hrd i hi) (by omega)
   refine yh_ (views:=[⟨1,(ls iOf n1 f1).length,zp_ (ls iOf n1 f1),A1,p1⟩]) (word_ok (ls iOf n1 f1) p1 y1) ?_ R hm hwr ?_ ?_ ?_
   ·exact d32_
   ·exact d28_
   ·exact yq_
   ·exact yq_
  ·cases hs
 ·cases hs
end Go.Proofs.YtjliakjbdcplcaaGreat.Vm
end
end

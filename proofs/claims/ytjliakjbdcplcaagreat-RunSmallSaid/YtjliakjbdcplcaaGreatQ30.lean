import Derived.Test.YtjliakjbdcplcaaGreatQ1
import Derived.Test.YtjliakjbdcplcaaGreatQ29
set_option linter.unusedSimpArgs false
set_option linter.unusedVariables false
set_option maxRecDepth 100000
set_option maxHeartbeats 4000000
section
namespace Go.Proofs.YtjliakjbdcplcaaGreat.Vm
open Go.RowKit
attribute [local push_cast] prS zo_ zp_ xt_ y8_ y7_ y6_ y5_ y4_ xs_ y3_ y2_ y1_ zn_ z2_ z4_ z1_ zu_ zt_ iOf
theorem WF.thenJoin {P:Program}{w0:World}{M:Nat→Prop}{E:Env}{n0 N n:Nat}{D:List Deferred}{φ : Fr}{L:List HB}{ro:Option Nat}{Q:Exit→Act→World→Prop}{α : Type}(p:α→Prop)(φi:α→Fr)(Li:α→List HB){x y:Code}(hx:WF ro n P x w0 M E n0 N D φ L (Exit.then (fun a w=>∃z,p z∧St w0 M E n0 N D (φi z) (Li z) a w) Q))(hy:∀z,p z→WF ro n P y w0 M E n0 N D (φi z) (Li z) Q):WF ro n P x w0 M E n0 N D φ L (Exit.then (y.wpIn (FR ro) n P Q) Q):=fun a w hS=>by
 refine wpIn_mono (hx a w hS) fun e a' w' hq=>?_
 cases e<;>try exact hq
 obtain⟨z,hz,hS'⟩:=hq
 exact hy z hz a' w' hS'
theorem WF.nilInS {P:Program}{w0:World}{M:Nat→Prop}{E:Env}{n0 N n:Nat}{D:List Deferred}{φ : Fr}{L L2:List HB}{c:Code}{ro:Option Nat}{Q:Exit→Act→World→Prop}(S:List Snd)(hS:S=[])(ty i t:Nat)(v v':SV)(ex:Bool)
  (hi:hp L i=.own t v ex) (hcl:∀β : Env,β 0=(none,0)→β L.length=(none,0)→v'.cl β = v.cl β) (hst:∀h:HM,(∀j,j≤L.length→(h j).born=true)→zc_ h v') (hbn:bornTo L.length L=true) (hn:∀n k f,v'≠.arr n k f) (hv:∀n k f,v≠.arr n k f)
  (hL2:L2=setH (L++[.own ty (.arr S.length 3 (zo_ S)) false]) i (.own t v' ex)) (h:WF ro n P c w0 M E n0 N D φ L2 Q):WF ro n P c w0 M E n0 N D φ L Q:=by
 subst hS
 exact WF.nilIn ty 3 (zo_ []) i t v v' ex (fun _ q=>xe_ q) hi hcl hst hbn hn hv hL2 h
theorem runA_ind {P:List Ins}{v:Evi}:∀(n:Nat) (s:Sta) (x x':Ins) (tr:List Int) (a a':Int),(xq_ P v n s x' tr a').tr=(xq_ P v n s x tr a).tr∧(xq_ P v n s x' tr a').bad=(xq_ P v n s x tr a).bad∧(xq_ P v n s x' tr a').s=(xq_ P v n s x tr a).s
 | 0,s,x,x',tr,a,a'=>by
  unfold xq_
  split<;>exact⟨rfl,rfl,rfl⟩
 | n+1,s,x,x',tr,a,a'=>by
  unfold xq_
  split
  ·exact⟨rfl,rfl,rfl⟩
  ·split
   ·exact runA_ind n _ _ _ _ _ _
   ·exact⟨rfl,rfl,rfl⟩
theorem runA_FG {P:List Ins}{v:Evi}(hP:PG P)(V:VOk v):∀(n:Nat) (s:Sta) (x:Ins) (tr:List Int) (a:Int),FG P s→FG P (xq_ P v n s x tr a).s∧(xq_ P v n s x tr a).s.cells.length=s.cells.length
 | 0,s,x,tr,a,h=>by
  unfold xq_
  split<;>exact⟨h,rfl⟩
 | n+1,s,x,tr,a,h=>by
  unfold xq_
  by_cases he:s.ended=true
  ·rw[if_pos he];exact⟨h,rfl⟩
  ·rw[if_neg he]
   have he':s.ended=false:=by cases h:s.ended<;>simp_all
   have h1:=h.step hP V he'
   have h2:(xx_ P v s).cells.length=s.cells.length:=by rw[stepS_of he'];exact doS_clen _ _ _
   split
   ·have h3:=runA_FG hP V n (xx_ P v s) (stepX P s x) (tr++[s.at_]) s.at_ h1
    exact⟨h3.1,h3.2.trans h2⟩
   ·exact⟨h1,h2⟩
theorem xv_ {c:Bool}{z i k a n:Nat}{p:List Stp}{q:Option Nat}{z' i' k' a' n':Nat}{p':List Stp}{q':Option Nat}:(SV.ite c (.sl z i p k a n q) (.sl z' i' p' k' a' n' q')).size=1:=by cases c<;>rfl
theorem same_refl (s:Sta):sameB s s=true:=by simp[sameB,regsB]
structure ZG where
 j:Nat
 s:Sta
 x:Ins
 u:Nat
 w:Bool
 fc:Bool
structure GInv (P:List Ins) (cs:List Int) (K:Nat) (z:ZG):Prop where
 hj:z.j≤K
 hg:FG P z.s
 hu:z.u≤600*z.j
 hc:z.fc=false→z.s.cells=cs
 hl:z.s.cells.length=cs.length
structure ZP where
 j:Nat
 l:List Ins
theorem getD_setP {l:List Ins}{k q:Nat}{y:Ins}(hk:k < l.length):(l.set k y).getD q ⟨0,0,0,0,0⟩=bif decide (q=k)then y else l.getD q ⟨0,0,0,0,0⟩ :=  d7_
theorem less_pset {t n:Nat}{b:Bool}{σ : Nat→Nat}{l:List Ins}{k:Nat}{y:Ins}{g:Nat→SV}(hl:l.length=n)(hk:k < n)(hg:∀β q,(g q).cl β =(yu_ (bif decide (q=k)then y else l.getD q ⟨0,0,0,0,0⟩)).cl β):Less (.own t (.arr n 5 g) b) ((HB.own t (.arr n 5 (prS (l.set k y))) b).ren σ):=by
 have e:(HB.own t (.arr n 5 (prS (l.set k y))) b).ren σ = .own t (.arr n 5 (prS (l.set k y))) b:=by
  simp only[HB.ren,SV.ren];rw[prS_ren]
 rw[e]
 refine .val (fun β=>arrCl fun q hq=>?_) (fun n1 k1 f1 e=>by injection e with e1 e2 e3;subst e1 e2;exact⟨_,rfl⟩) (fun n1 k1 f1 e=>by injection e with e1 e2 e3;subst e1 e2;exact⟨_,rfl⟩)
 rw[hg]
 unfold prS
 rw[getD_setP (by omega)]
theorem spoil_on (c:List Int)(hc:c.length≤1000000):zs_ Tryz.prog 40 [.sl 1 1 [] 1 0 c.length none,.sl 0 0 [] 0 0 0 (some 0)] [.gone,.own 2 (.arr c.length 1 (zp_ c)) false] (.tup []) [.gone,.gone]:=by
 refine zf_ (fn:=Tryz.f40) 2 25 0 rfl rfl rfl rfl rfl u25_ rfl fun w0 M E hro=>?_
 repeat' (first|refine Ctl.h ?_ |((with_reducible intro hif);first |(focus (cases hif;done)) |((try simp only[JH]at hif);try exact hy_)) |((with_reducible first|apply J22 zv_ za_|apply J23 fol zv_ za_|apply J24);(·rfl);(· exact k20_);(try kernel_rfl);try exact yr_)|fail)
 refine WF.loopAt (fun (z:ZC)=>z.j≤c.length∧z.l.length=c.length) (fun (z:ZC)=>[(0,.sl 1 1 [] 1 0 c.length none),(1,.sl 0 0 [] 0 0 0 (some 0)),(7,.nat .i64 c.length),(8,.nat .i64 z.j)]) (fun (z:ZC)=>[.gone,.own 2 (.arr c.length 1 (zp_ z.l)) false]) (fun (z:ZC)=>c.length - z.j) ⟨0,c⟩ ⟨Nat.zero_le _,rfl⟩ ?_ ?_ rfl ?_ ?_ rfl ?_
 ·exact we_
 ·exact k7_
 ·exact yw_
 ·exact yw_
 rintro⟨j,l⟩ ⟨hj,hl⟩
 dsimp only at hj hl ⊢
 by_cases hjl:j < c.length
 ·repeat' (first|refine Ctl.h ?_ |((with_reducible intro hif);first |(focus (cases hif;done)) |((try simp only[JH]at hif);try exact hy_)) |((with_reducible first|apply J22 zv_ za_|apply J23 fol zv_ za_|apply J24);(·rfl);(· exact k119_);(try kernel_rfl);try exact k15_)|fail)
  refine At.nextPick [0,1] ⟨j+1,l.set j (-99)⟩ ?_ rfl rfl rfl ?_ rfl ?_ ?_ ?_ rfl
  ·exact k114_
  ·exact k115_
  ·exact yw_
  ·exact k32_
  ·exact yw_
 ·obtain rfl:j=c.length:=by omega
  repeat' (first|refine Ctl.h ?_ |((with_reducible intro hif);first |(focus (cases hif;done)) |((try simp only[JH]at hif);try exact hy_)) |((with_reducible first|apply J22 zv_ za_|apply J23 fol zv_ za_|apply J24);(·rfl);(· exact k120_);(try kernel_rfl);try exact yr_)|fail)
  refine WF.loopAt (fun (j:Nat)=>j=0) (fun (j:Nat)=>[(16,.nat .i64 0),(17,.nat .i64 j)]) (fun (j:Nat)=>[.gone,.gone]) (fun (j:Nat)=>j) 0 rfl ?_ ?_ rfl ?_ ?_ rfl ?_
  ·exact we_
  ·exact k7_
  ·exact yw_
  ·exact yw_
  rintro j rfl
  repeat' (first|refine Ctl.h ?_ |((with_reducible intro hif);first |(focus (cases hif;done)) |((try simp only[JH]at hif);try exact hy_)) |((with_reducible first|apply J22 zv_ za_|apply J23 fol zv_ za_|apply J24);(·rfl);(· exact k20_);(try kernel_rfl);try exact yr_)|fail)
  apply At.endsNormal za_ (fn:=Tryz.f40) (rs:=[]) Anc.refl hro (lb_ rfl) rfl
  ·exact yl_
  ·exact k6_
  ·exact k7_
  ·rfl
  ·exact yw_
  ·exact k9_
  ·exact fun β=>rfl
  ·exact yw_
def sSpo:yn_:=fun args h m=>match args with
 | [.sl z i [] 1 0 n none,.sl 0 0 [] 0 0 0 (some 0)]=>match h i with
  | .own t1 (.arr n1 1 cf) false=>bif Nat.beq t1 2 && (Nat.beq z i && Nat.beq n1 n) && z3_ [0,i] then
    some ((∀q,q < n→isI .i64 (cf q)=true)∧n≤1000000,.tup [],[i],[(i,.gone)])else none
  | _=>none
 | _=>x6_ args h m
theorem sSpo_ok:zi_ Tryz.prog 40 sSpo:=by
 refine⟨zg_ (by kernel_rfl),fun args h m c v rd wr hs hm hc w0 M β h' w R hrd hwr hst=>?_⟩
 unfold sSpo at hs
 split at hs
 ·rename_i z i n
  split at hs
  ·rename_i t1 n1 cf hi
   obtain⟨hb,hs⟩:=zl_ hs
   simp only[Option.some.injEq,Prod.mk.injEq]at hs
   obtain⟨rfl,rfl,rfl,rfl⟩:=hs
   simp only[Bool.and_eq_true]at hb
   obtain⟨⟨b1,b3,b5⟩,hnd⟩:=hb
   have b1:=Nat.eq_of_beq_eq_true b1
   have b3:=Nat.eq_of_beq_eq_true b3
   have b5:=Nat.eq_of_beq_eq_true b5
   subst b1 b3 b5
   obtain⟨hcf,hn1⟩:=hc
   have ei:=hrd z (by simp)
   exact bun_ok (h:=h) (m:=m) [0,z] (spoil_on (ls iOf n1 cf) (by rw[zb_];exact hn1)) R rfl (by simp) rfl rfl hnd
    ⟨Fit.gone (by rw[R.nil0];rfl),bun_own1 (ei.trans hi) hcf,trivial⟩ hm
    (fun p hp=>by cases hp) (by simp) rfl
    ⟨trivial,fun q=>yy_ q,trivial⟩ (by simp[ze_,zc_,hp,HB.born])
    ⟨trivial,trivial,trivial⟩ trivial (by simp only[zb_];rfl) rfl rfl
  ·cases hs
 ·exact sSpoil_ok.2 _ h m c v rd wr hs hm hc w0 M β h' w R hrd hwr hst
end Go.Proofs.YtjliakjbdcplcaaGreat.Vm
end

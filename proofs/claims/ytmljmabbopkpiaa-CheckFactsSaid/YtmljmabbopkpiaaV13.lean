import Derived.Test.YtmljmabbopkpiaaV1
import Derived.Test.YtmljmabbopkpiaaV11
import Derived.Test.YtmljmabbopkpiaaV12
set_option linter.unusedSimpArgs false
set_option linter.unusedVariables false
set_option maxRecDepth 100000
set_option maxHeartbeats 4000000
section
namespace Go.Proofs.Ytmljmabbopkpiaa.Vm
open Go.RowKit
attribute [local push_cast] eqB eqBL allB prS sndsS i64S nav_ins nav_ins0 nav_ins1 nav_ins2 nav_ins3 nav_ins4 nav_snd nav_snd0 nav_snd1 nav_snd2 yz_ zf_ yy_ yx_ isI_int isI_nat iOf yv_ sRepZ yw_ z9_ zy_ ye_ z4_ inR inN
def cDi:FuncId→Option Spec:=look2 [(93,yv_),(119,sRepZ),(95,yw_),(99,sGoes),(98,yg_)]
theorem zc_:∀f S,cDi f=some S→zs_ Try.prog f S:=yi_ ⟨sRight_ok,sRepZ_ok,sEdges_ok,sGoes_ok,sTarget_ok,trivial⟩
structure DY where
 z:DZ
 e:Bool
structure DWI (p:List Ins) (R:List Int) (y:DY):Prop where
 inv:DI p y.z
 run:∃m,m≤p.length+1∧y.z.W.length+(p.length - cntD y.z.D)≤m∧(disI p m y.z).D=R
theorem DWI.fin {p:List Ins}{R D:List Int}{e:Bool}(I:DWI p R ⟨⟨D,[]⟩,e⟩):D=R:=by
 obtain⟨m,_,_,h⟩:=I.run
 rw[←h]
 cases m<;>rfl
theorem DWI.next {p:List Ins}{R D w:List Int}{i:Int}{e e':Bool}(hx:∀x∈p,x.ok)(hc:(z7_ p).2=0)(I:DWI p R ⟨⟨D,i::w⟩,e⟩){z:DZ}(hz:disS p ⟨D,i::w⟩=z):DWI p R ⟨z,e'⟩∧z.W.length+(p.length - cntD z.D) < (i::w).length+(p.length - cntD D):=by
 obtain⟨J,hm⟩:=I.inv.step hx hc
 rw[hz]at J hm
 obtain⟨m,h0,h1,h2⟩:=I.run
 have h1:(i::w).length+(p.length - cntD D)≤m:=h1
 obtain⟨m,rfl⟩:∃m',m=m'+1:=⟨m - 1,by omega⟩
 refine⟨⟨J,m,by omega,by show z.W.length+(p.length - cntD z.D)≤m;omega,?_⟩,hm⟩
 have:(disI p (m+1) ⟨D,i::w⟩).D=R:=h2
 unfold disI at this
 rw[hz]at this
 exact this
theorem vis_p {i k:Int}{D w:List Int}(h:D.getD k.toNat 0 < 0):visZ i ⟨D,w⟩ k=⟨D.set k.toNat (D.getD i.toNat 0+1),w++[k]⟩:=if_pos h
theorem vis_n {i k:Int}{D w:List Int}(h:¬D.getD k.toNat 0 < 0):visZ i ⟨D,w⟩ k=⟨D,w⟩:=if_neg h
theorem vis_q {i k j:Int}{D w:List Int}{n:Nat}{y:Int}(hl:D.length=n)(hj:j.toNat < n)(hne:¬k.toNat=j.toNat)(hni:¬i.toNat=j.toNat)(h:D.getD k.toNat 0 < 0):visZ i ⟨D.set j.toNat y,w⟩ k=⟨(D.set j.toNat y).set k.toNat (D.getD i.toNat 0+1),w++[k]⟩:=by
 have hj':j.toNat < D.length:=by omega
 have h1:(D.set j.toNat y).getD k.toNat 0=D.getD k.toNat 0:=by rw[yu_ hj',if_neg hne]
 have h2:(D.set j.toNat y).getD i.toNat 0=D.getD i.toNat 0:=by rw[yu_ hj',if_neg hni]
 rw[vis_p (by rw[h1];exact h),h2]
theorem vis_m {i k j:Int}{D w:List Int}{n:Nat}{y:Int}(hl:D.length=n)(hj:j.toNat < n)(hne:¬k.toNat=j.toNat)(h:¬D.getD k.toNat 0 < 0):visZ i ⟨D.set j.toNat y,w⟩ k=⟨D.set j.toNat y,w⟩:=by
 have hj':j.toNat < D.length:=by omega
 rw[vis_n (by rw[yu_ hj',if_neg hne];exact h)]
theorem arr_less {t n:Nat}{ex:Bool}{σ : Nat→Nat}{f:Nat→SV}{l:List Int}{m:Nat}(hm:n=m)(h:∀q,q < m→∀β,(f q).cl β = [.int .i64 (l.getD q 0)]):Less (.own t (.arr n 1 f) ex) ((HB.own t (.arr m 1 (i64S l)) ex).ren σ):=by
 subst hm
 exact .val (fun β=>arrCl fun q hq=>by rw[h q hq β];rfl) (fun n1 k1 f1 e=>by injection e with e1 e2 e3;subst e1 e2;exact⟨_,rfl⟩) (fun n1 k1 f1 e=>by injection e with e1 e2 e3;subst e1 e2;exact⟨_,rfl⟩)
theorem less_d1 {t n:Nat}{σ : Nat→Nat}{D:List Int}(hl:D.length=n)(a:Nat)(y:Int):Less (.own t (.arr n 1 fun q=>.int .i64 (bif decide (q=a)then y else D.getD q 0)) false) ((HB.own t (.arr n 1 (i64S (D.set a y))) false).ren σ):=
 arr_less rfl fun q hq β=>by
  by_cases ha:a < D.length
  ·exact d18_
  ·exact d19_
theorem less_d2 {t n:Nat}{σ : Nat→Nat}{D:List Int}(hl:D.length=n)(a b:Nat)(y:Int):Less (.own t (.arr n 1 fun q=>.int .i64 (bif decide (q=b)then y else bif decide (q=a)then y else D.getD q 0)) false) ((HB.own t (.arr n 1 (i64S ((D.set a y).set b y))) false).ren σ):=
 arr_less rfl fun q hq β=>by
  by_cases hb:b < (D.set a y).length
  ·rw[yu_ hb]
   by_cases h:q=b
   ·rw[decide_eq_true h,if_pos h];rfl
   ·rw[decide_eq_false h,if_neg h]
    by_cases ha:a < D.length
    ·exact d18_
    ·exact d19_
  ·rw[List.length_set]at hb
   have h:¬q=b:=by omega
   rw[decide_eq_false h,List.set_eq_of_length_le (l:=D.set a y) (by rw[List.length_set];omega)]
   by_cases ha:a < D.length
   ·exact d18_
   ·exact d19_
theorem app_at {w:List Int}{T:Int}{q:Nat}(hq:q < w.length+1):(w++[T]).getD q 0=if q < w.length then w.getD q 0 else T:=by
 rw[List.getD_eq_getElem?_getD]
 split
 ·rename_i h;rw[List.getElem?_append_left h,List.getD_eq_getElem?_getD]
 ·rename_i h
  have:q=w.length:=by omega
  subst this
  rw[List.getElem?_append_right (Nat.le_refl _)];simp
theorem less_w1 {t:Nat}{σ : Nat→Nat}{z:SV}(w:List Int)(T:Int):Less (.own t (.arr (w.length+1) 1 fun q=>SV.ite (decide (q < w.length)) (.int .i64 (w.getD q 0)) ([SV.int .i64 T].getD (q - w.length) z)) false) ((HB.own t (.arr (w++[T]).length 1 (i64S (w++[T]))) false).ren σ):=
 arr_less (by simp) fun q hq β=>by
  have hq:q < w.length+1:=by simpa using hq
  rw[app_at hq,ite_eq]
  by_cases h:q < w.length
  ·rw[decide_eq_true h,if_pos h];rfl
  ·have e:q - w.length=0:=by omega
   rw[decide_eq_false h,if_neg h,e];rfl
theorem less_w2 {t:Nat}{σ : Nat→Nat}{z z':SV}(w:List Int)(T U:Int):Less (.own t (.arr (w.length+1+1) 1 fun q=>SV.ite (decide (q < w.length+1)) (SV.ite (decide (q < w.length)) (.int .i64 (w.getD q 0)) ([SV.int .i64 T].getD (q - w.length) z)) ([SV.int .i64 U].getD (q - (w.length+1)) z')) false) ((HB.own t (.arr (w++[T]++[U]).length 1 (i64S (w++[T]++[U]))) false).ren σ):=
 arr_less (by simp) fun q hq β=>by
  have hq:q < w.length+1+1:=by simpa using hq
  rw[app_at (w:=w++[T]) (by simpa using hq),ite_eq,ite_eq]
  by_cases h:q < w.length+1
  ·rw[decide_eq_true h,if_pos (by simpa using h),app_at h]
   by_cases h:q < w.length
   ·rw[decide_eq_true h,if_pos h];rfl
   ·have e:q - w.length=0:=by omega
    rw[decide_eq_false h,if_neg h,e];rfl
  ·have e:q - (w.length+1)=0:=by omega
   rw[decide_eq_false h,if_neg (by simpa using h),e];rfl
theorem less_sl {t b b' n m:Nat}{e:Bool}{σ : Nat→Nat}(hm:m=n)(hb:σ b'=b):Less (.own t (.sl b b [] 1 0 n none) e) ((HB.own t (.sl b' b' [] 1 0 m none) e).ren σ):=by
 subst hm;subst hb;exact .same _
theorem lsPd (l:List Ins):ls zg_ l.length (fun q=>insS (l.getD q ⟨0,0,0,0,0⟩))=l:=z9_ l
theorem dist_lit (xs:List Ins)(p1:Nat)(hx:∀x∈xs,x.ok)(hc:(z7_ xs).2=0):LitOk Try.prog 91 [.sl 1 2 [] 5 0 xs.length (some p1)] [.gone,.gone,.ro (.arr xs.length 5 (prS xs))]
  (.tup [.sl 3 3 [] 1 0 xs.length none,.nat .i64 0]) [.gone,.gone,.gone,.own 3 (.arr xs.length 1 (i64S (distS xs))) false]:=by
 have hl0:=(ys_ hc).1
 have hl6:=(ys_ hc).2.1
 have hr0:rightI xs=0:=if_pos hc
 have hadd:=True.intro
 refine litOkM (fn:=Try.f91) 3 52 0 rfl rfl rfl rfl rfl (by simp only[zd_,zb_,hp,i64S,prS,insS,sndsS,sndS];simp[HB.born]) rfl fun w0 M E hro=>?_
 repeat' (first|refine Ctl.h ?_ |((with_reducible intro hif);first |(focus (cases hif;done)) |((try simp only[JH]at hif);try exact hy_)) |((with_reducible first|apply J22 zc_ za_|apply J23 fol zc_ za_|apply J24);(·rfl);(· exact k47_);(try kernel_rfl);try exact k46_)|fail)
 have hD0:Less (.own 3 (.arr xs.length 1 fun j=>SV.ite (decide (j=0)) (.nat .i64 0) (.int .i64 ((List.replicate xs.length ((ls iOf 1 fun i=>[SV.int .i64 (-1)].getD i (.nat .i64 0)).getD 0 0)).getD j 0))) false) (.own 3 (.arr xs.length 1 (i64S (dis0 xs.length).D)) false):=by
  refine .val (fun β=>arrCl fun q hq=>?_) (fun n1 k1 f1 e=>by injection e with e1 e2 e3;subst e1 e2;exact⟨_,rfl⟩) (fun n1 k1 f1 e=>by injection e with e1 e2 e3;subst e1 e2;exact⟨_,rfl⟩)
  show _=[Value.int .i64 (((List.replicate xs.length (-1:Int)).set 0 0).getD q 0)]
  rw[ite_eq,yu_ (by simpa using hl0)]
  by_cases h:q=0
  ·rw[decide_eq_true h,if_pos h];rfl
  ·rw[decide_eq_false h,if_neg h];rfl
 have hW0:Less (.own 3 (.arr 1 1 fun i=>[SV.nat .i64 0].getD i (.nat .i64 0)) true) (.own 3 (.arr (dis0 xs.length).W.length 1 (i64S (dis0 xs.length).W)) true):=by
  refine .val (fun β=>arrCl fun q hq=>?_) (fun n1 k1 f1 e=>by injection e with e1 e2 e3;subst e1 e2;exact⟨_,rfl⟩) (fun n1 k1 f1 e=>by injection e with e1 e2 e3;subst e1 e2;exact⟨_,rfl⟩)
  have:q=0:=by omega
  subst this
  rfl
 obtain⟨R,hR⟩:∃R,distS xs=R:=⟨_,rfl⟩
 rw[hR]
 have I0 : DWI xs R ⟨dis0 xs.length, true⟩ := ⟨dis0_I hl0,xs.length+1,Nat.le_refl _,by
  have I:=dis0_I hl0
  have:=I.up 0
  have:=I.zero
  show 1+(xs.length - cntD (dis0 xs.length).D)≤_
  omega,hR⟩
 refine WF.loopB (fun (y:DY)=>DWI xs R y) (fun (y:DY)=>[(0,.sl 1 2 [] 5 0 xs.length (some p1)),(2,.sl 0 0 [] 0 0 0 (some 0)),(3,.nat .i64 0),(5,.ptr 5 []),(6,.ptr 7 [])]) (fun (y:DY)=>[.gone,.gone,.ro (.arr xs.length 5 (prS xs)),.gone,.own 3 (.arr xs.length 1 (i64S y.z.D)) false,.own 79 (.sl 4 4 [] 1 0 xs.length none) true,.own 3 (.arr y.z.W.length 1 (i64S y.z.W)) y.e,.own 79 (.sl 6 6 [] 1 0 y.z.W.length none) true]) (fun (y:DY)=>y.z.W.length+(xs.length - cntD y.z.D)) ⟨dis0 xs.length,true⟩ I0 ?_ ?_ rfl ?_ ?_ rfl ?_
 ·exact k13_
 ·exact k5_
 ·exact k6_
 ·exact k6_
 rintro w1 M1 D1 ⟨⟨D,W⟩,e⟩ hA I
 cases W with
 | nil=>
  have hDR:D=R:=I.fin
  rw[←hDR]
  repeat' (first|refine Ctl.h ?_ |((with_reducible intro hif);first |(focus (cases hif;done)) |((try simp only[JH]at hif);try exact hy_)) |((with_reducible first|apply J22 zc_ za_|apply J23 fol zc_ za_|apply J24);(·rfl);(· exact k47_);(try kernel_rfl);try exact k46_)|fail)
  apply At.endsPick [0,1,2,4] za_ (fn:=Try.f91) (rs:=[.tmp 2,.tmp 3]) hA hro (lb_ rfl) rfl
  ·exact k17_
  ·exact k18_
  ·rfl
  ·rfl
  ·rfl
  ·exact k19_
  ·rfl
  ·exact k6_
  ·exact k7_
  ·exact fun β=>rfl
  ·exact k6_
 | cons i w=>
  obtain⟨i0,i1,i2⟩:=I.inv.mem i (List.mem_cons_self ..)
  dsimp only at i2
  obtain⟨x,hX⟩:∃x,xs.getD i.toNat ⟨0,0,0,0,0⟩=x:=⟨_,rfl⟩
  have hRi:=right_at hx hc (k:=i.toNat) (by omega)
  rw[hX]at hRi
  have hxo:=hRi.ok
  have hDl:D.length=xs.length:=I.inv.len
  have hDi:D.getD i.toNat 0 < cntD D:=I.inv.up i.toNat
  have hcl:=cnt_le D
  have hwl:w.length≤257:=by
   obtain⟨m,h0,h1,_⟩:=I.run
   have h1:w.length+1+(xs.length - cntD D)≤m:=h1
   omega
  have hadd:-9223372036854775808≤D.getD (0+i.toNat) 0+((1:Nat):Int)∧D.getD (0+i.toNat) 0+((1:Nat):Int)≤9223372036854775807:=by
   rw[Nat.zero_add];omega
  repeat' (first|refine Ctl.h ?_ |((with_reducible intro hif);first |(focus (cases hif;done)) |((try simp only[JH]at hif);try exact hy_)) |((with_reducible first|apply J22 zc_ za_|apply J23 fol zc_ za_|apply J24);(·rfl);(· (simp only[push_cast,↓JP,Nat.reduceAdd,Nat.reduceEqDiff,Nat.reduceLT,Nat.reduceMul,Nat.reduceLeDiff,reduceCtorEq,reduceIte,↓JK,cDi,lsPd,hr0,List.all_cons,List.all_nil,Int.toNat_natCast,Nat.zero_add,List.length_cons,List.getD_cons_zero,List.getD_cons_succ,Nat.add_sub_cancel];rfl));(try kernel_rfl);try exact k46_)|fail)
  with_reducible apply WF.range (fn':=Try.f123) 59
  ·simp only[push_cast,↓JP,Nat.reduceAdd,Nat.reduceEqDiff,Nat.reduceLT,Nat.reduceMul,Nat.reduceLeDiff,reduceCtorEq,reduceIte,↓JK];rfl
  ·exact k18_
  ·rfl
  ·rfl
  ·rfl
  ·rfl
  ·rfl
  ·rfl
  ·rfl
  intro E1 rec tmps after hE1 hrec hcf haft
  repeat' (first|refine Ctl.h ?_ |((with_reducible intro hif);first |(focus (cases hif;done)) |((try simp only[JH]at hif);try exact hy_)) |((with_reducible first|apply J22 zc_ za_|apply J23 fol zc_ za_|apply J24);(·rfl);(· (simp only[push_cast,↓JP,Nat.reduceAdd,Nat.reduceEqDiff,Nat.reduceLT,Nat.reduceMul,Nat.reduceLeDiff,reduceCtorEq,reduceIte,↓JK,cDi,lsPd,hr0,List.all_cons,List.all_nil,Int.toNat_natCast,Nat.zero_add,hX];rfl));(try kernel_rfl);try exact k46_)|fail)
  have hgo:=hRi.goes
  have hta:=hRi.targ
  by_cases hT:y0_ x=true
  ·have hta:=hta hT
   by_cases hle:zv_ x≤i
   ·have hgt:¬(i < zv_ x):=by omega
    by_cases hG:goesB x=true
    ·have hgo:=hgo hG
     have hE:ya_ x i=[zv_ x,i+1]:=by unfold ya_;simp[hT,hG,hle,hgt]
     have k00:0≤zv_ x:=by omega
     have k01:(zv_ x).toNat < xs.length:=by omega
     have k10:0≤i+1:=by omega
     have k11:(i+1).toNat < xs.length:=by omega
     have hne:¬((i+1).toNat=(zv_ x).toNat):=by omega
     repeat' (first|refine Ctl.h ?_ |((with_reducible intro hif);first |(focus (cases hif;done)) |((try simp only[JH]at hif);try exact hy_)) |((with_reducible first|apply J22 zc_ za_|apply J23 fol zc_ za_|apply J24);(·rfl);(· exact k48_);(try kernel_rfl);try exact k46_)|fail)
     with_reducible apply WF.split 9 2
     ·rfl
     with_reducible apply At.run zc_ za_
     ·rfl
     ·rfl
     ·rfl
     ·exact k20_
     ·exact k21_
     with_reducible apply At.yield (gr:=_)
     ·rfl
     ·rfl
     ·rfl
     ·rfl
     ·rfl
     ·rfl
     ·exact k20_
     ·exact k22_
     ·exact k20_
     ·exact k21_
     ·exact k20_
     ·exact k21_
     ·exact k22_
     ·exact hrec
     ·exact hcf
     ·rfl
     ·rfl
     ·rfl
     intro lb E2 next hE2 hnext
     repeat' (first|refine Ctl.h ?_ |((with_reducible intro hif);first |(focus (cases hif;done)) |((try simp only[JH]at hif);try exact hy_)) |((with_reducible first|apply J22 zc_ za_|apply J23 fol zc_ za_|apply J24);(·rfl);(· exact k48_);(try kernel_rfl);try exact k46_)|fail)
     with_reducible apply At.begins hrec
     ·rfl
     with_reducible refine At.code ?_
     by_cases hv0:D.getD (zv_ x).toNat 0 < 0
     ·have hni:¬(i.toNat=(zv_ x).toNat):=fun e=>by rw[←e]at hv0;omega
      repeat' (first|refine Ctl.h ?_ |((with_reducible intro hif);first |(focus (cases hif;done)) |((try simp only[JH]at hif);try exact hy_)) |((with_reducible first|apply J22 zc_ za_|apply J23 fol zc_ za_|apply J24);(·rfl);(· exact k49_);(try kernel_rfl);try exact k46_)|fail)
      with_reducible apply At.roundNormal
      ·exact k23_
      apply hnext
      with_reducible apply At.runEnd zc_ za_
      ·rfl
      ·rfl
      ·rfl
      ·exact k24_
      ·exact k21_
      repeat' (first|refine Ctl.h ?_ |((with_reducible intro hif);first |(focus (cases hif;done)) |((try simp only[JH]at hif);try exact hy_)) |((with_reducible first|apply J22 zc_ za_|apply J23 fol zc_ za_|apply J24);(·rfl);(· exact k49_);(try kernel_rfl);try exact k46_)|fail)
      with_reducible apply WF.split 5 2
      ·rfl
      with_reducible apply At.run zc_ za_
      ·rfl
      ·rfl
      ·rfl
      ·exact k24_
      ·exact k21_
      with_reducible apply At.yield (gr:=_)
      ·rfl
      ·rfl
      ·rfl
      ·rfl
      ·rfl
      ·rfl
      ·exact k24_
      ·exact k23_
      ·exact k24_
      ·exact k21_
      ·exact k24_
      ·exact k21_
      ·exact k23_
      ·exact hrec
      ·exact hcf
      ·rfl
      ·rfl
      ·rfl
      intro lb E2 next hE2 hnext
      repeat' (first|refine Ctl.h ?_ |((with_reducible intro hif);first |(focus (cases hif;done)) |((try simp only[JH]at hif);try exact hy_)) |((with_reducible first|apply J22 zc_ za_|apply J23 fol zc_ za_|apply J24);(·rfl);(· exact k49_);(try kernel_rfl);try exact k46_)|fail)
      with_reducible apply At.begins hrec
      ·rfl
      with_reducible refine At.code ?_
      by_cases hv1:D.getD (i+1).toNat 0 < 0
      ·have hadd:-9223372036854775808≤(bif decide (0+i.toNat=(zv_ x).toNat)then D.getD i.toNat 0+1 else D.getD (0+i.toNat) 0)+((1:Nat):Int)∧(bif decide (0+i.toNat=(zv_ x).toNat)then D.getD i.toNat 0+1 else D.getD (0+i.toNat) 0)+((1:Nat):Int)≤9223372036854775807:=by
        rw[Nat.zero_add,decide_eq_false hni,cond_false];omega
       repeat' (first|refine Ctl.h ?_ |((with_reducible intro hif);first |(focus (cases hif;done)) |((try simp only[JH]at hif);try exact hy_)) |((with_reducible first|apply J22 zc_ za_|apply J23 fol zc_ za_|apply J24);(·rfl);(· exact k50_);(try kernel_rfl);try exact k46_)|fail)
       with_reducible apply At.roundNormal
       ·exact k25_
       apply hnext
       with_reducible apply At.runEnd zc_ za_
       ·rfl
       ·rfl
       ·rfl
       ·exact k26_
       ·exact k21_
       repeat' (first|refine Ctl.h ?_ |((with_reducible intro hif);first |(focus (cases hif;done)) |((try simp only[JH]at hif);try exact hy_)) |((with_reducible first|apply J22 zc_ za_|apply J23 fol zc_ za_|apply J24);(·rfl);(· exact k50_);(try kernel_rfl);try exact k46_)|fail)
       have hz:disS xs ⟨D,i::w⟩=⟨((D.set (zv_ x).toNat (D.getD i.toNat 0+1)).set (i+1).toNat (D.getD i.toNat 0+1)),((w++[zv_ x])++[i+1])⟩:=by
        show (ya_ (xs.getD i.toNat ⟨0,0,0,0,0⟩) i).foldl (visZ i) ⟨D,w⟩=_
        rw[hX,hE]
        simp only[List.foldl_cons,List.foldl_nil]
        rw[vis_p hv0]
        rw[vis_q hDl k01 hne hni hv1]
       with_reducible apply At.itNormal .ready
       ·rfl
       ·rfl
       ·intro h;cases h
       apply haft
       intro w1 M1 D1 hA
       dsimp only
       repeat' (first|refine Ctl.h ?_ |((with_reducible intro hif);first |(focus (cases hif;done)) |((try simp only[JH]at hif);try exact hy_)) |((with_reducible first|apply J22 zc_ za_|apply J23 fol zc_ za_|apply J24);(·rfl);(· exact k50_);(try kernel_rfl);try exact k46_)|fail)
       refine At.nextB hA [0,1,2,3,4,5,17,18] (DY.mk (DZ.mk ((D.set (zv_ x).toNat (D.getD i.toNat 0+1)).set (i+1).toNat (D.getD i.toNat 0+1)) ((w++[zv_ x])++[i+1])) false) ?_ rfl rfl rfl ?_ rfl ?_ ?_ ?_ rfl
       ·exact DWI.next hx hc I hz
       ·exact k27_
       ·exact k6_
       ·exact k28_
       ·exact k6_
      ·repeat' (first|refine Ctl.h ?_ |((with_reducible intro hif);first |(focus (cases hif;done)) |((try simp only[JH]at hif);try exact hy_)) |((with_reducible first|apply J22 zc_ za_|apply J23 fol zc_ za_|apply J24);(·rfl);(· exact k50_);(try kernel_rfl);try exact k46_)|fail)
       with_reducible apply At.roundNormal
       ·exact k25_
       apply hnext
       with_reducible apply At.runEnd zc_ za_
       ·rfl
       ·rfl
       ·rfl
       ·exact k26_
       ·exact k21_
       repeat' (first|refine Ctl.h ?_ |((with_reducible intro hif);first |(focus (cases hif;done)) |((try simp only[JH]at hif);try exact hy_)) |((with_reducible first|apply J22 zc_ za_|apply J23 fol zc_ za_|apply J24);(·rfl);(· exact k50_);(try kernel_rfl);try exact k46_)|fail)
       have hz:disS xs ⟨D,i::w⟩=⟨(D.set (zv_ x).toNat (D.getD i.toNat 0+1)),(w++[zv_ x])⟩:=by
        show (ya_ (xs.getD i.toNat ⟨0,0,0,0,0⟩) i).foldl (visZ i) ⟨D,w⟩=_
        rw[hX,hE]
        simp only[List.foldl_cons,List.foldl_nil]
        rw[vis_p hv0]
        rw[vis_m hDl k01 hne hv1]
       with_reducible apply At.itNormal .ready
       ·rfl
       ·rfl
       ·intro h;cases h
       apply haft
       intro w1 M1 D1 hA
       dsimp only
       repeat' (first|refine Ctl.h ?_ |((with_reducible intro hif);first |(focus (cases hif;done)) |((try simp only[JH]at hif);try exact hy_)) |((with_reducible first|apply J22 zc_ za_|apply J23 fol zc_ za_|apply J24);(·rfl);(· exact k50_);(try kernel_rfl);try exact k46_)|fail)
       refine At.nextB hA [0,1,2,3,4,5,15,16] (DY.mk (DZ.mk (D.set (zv_ x).toNat (D.getD i.toNat 0+1)) (w++[zv_ x])) false) ?_ rfl rfl rfl ?_ rfl ?_ ?_ ?_ rfl
       ·exact DWI.next hx hc I hz
       ·exact k29_
       ·exact k6_
       ·exact k28_
       ·exact k6_
     ·repeat' (first|refine Ctl.h ?_ |((with_reducible intro hif);first |(focus (cases hif;done)) |((try simp only[JH]at hif);try exact hy_)) |((with_reducible first|apply J22 zc_ za_|apply J23 fol zc_ za_|apply J24);(·rfl);(· exact k51_);(try kernel_rfl);try exact k46_)|fail)
      with_reducible apply At.roundNormal
      ·exact k30_
      apply hnext
      with_reducible apply At.runEnd zc_ za_
      ·rfl
      ·rfl
      ·rfl
      ·exact k31_
      ·exact k21_
      repeat' (first|refine Ctl.h ?_ |((with_reducible intro hif);first |(focus (cases hif;done)) |((try simp only[JH]at hif);try exact hy_)) |((with_reducible first|apply J22 zc_ za_|apply J23 fol zc_ za_|apply J24);(·rfl);(· exact k51_);(try kernel_rfl);try exact k46_)|fail)
      with_reducible apply WF.split 5 2
      ·rfl
      with_reducible apply At.run zc_ za_
      ·rfl
      ·rfl
      ·rfl
      ·exact k31_
      ·exact k21_
      with_reducible apply At.yield (gr:=_)
      ·rfl
      ·rfl
      ·rfl
      ·rfl
      ·rfl
      ·rfl
      ·exact k31_
      ·exact k30_
      ·exact k31_
      ·exact k21_
      ·exact k31_
      ·exact k21_
      ·exact k30_
      ·exact hrec
      ·exact hcf
      ·rfl
      ·rfl
      ·rfl
      intro lb E2 next hE2 hnext
      repeat' (first|refine Ctl.h ?_ |((with_reducible intro hif);first |(focus (cases hif;done)) |((try simp only[JH]at hif);try exact hy_)) |((with_reducible first|apply J22 zc_ za_|apply J23 fol zc_ za_|apply J24);(·rfl);(· exact k51_);(try kernel_rfl);try exact k46_)|fail)
      with_reducible apply At.begins hrec
      ·rfl
      with_reducible refine At.code ?_
      by_cases hv1:D.getD (i+1).toNat 0 < 0
      ·repeat' (first|refine Ctl.h ?_ |((with_reducible intro hif);first |(focus (cases hif;done)) |((try simp only[JH]at hif);try exact hy_)) |((with_reducible first|apply J22 zc_ za_|apply J23 fol zc_ za_|apply J24);(·rfl);(· exact k52_);(try kernel_rfl);try exact k46_)|fail)
       with_reducible apply At.roundNormal
       ·exact k32_
       apply hnext
       with_reducible apply At.runEnd zc_ za_
       ·rfl
       ·rfl
       ·rfl
       ·exact k33_
       ·exact k21_
       repeat' (first|refine Ctl.h ?_ |((with_reducible intro hif);first |(focus (cases hif;done)) |((try simp only[JH]at hif);try exact hy_)) |((with_reducible first|apply J22 zc_ za_|apply J23 fol zc_ za_|apply J24);(·rfl);(· exact k52_);(try kernel_rfl);try exact k46_)|fail)
       have hz:disS xs ⟨D,i::w⟩=⟨(D.set (i+1).toNat (D.getD i.toNat 0+1)),(w++[i+1])⟩:=by
        show (ya_ (xs.getD i.toNat ⟨0,0,0,0,0⟩) i).foldl (visZ i) ⟨D,w⟩=_
        rw[hX,hE]
        simp only[List.foldl_cons,List.foldl_nil]
        rw[vis_n hv0]
        rw[vis_p hv1]
       with_reducible apply At.itNormal .ready
       ·rfl
       ·rfl
       ·intro h;cases h
       apply haft
       intro w1 M1 D1 hA
       dsimp only
       repeat' (first|refine Ctl.h ?_ |((with_reducible intro hif);first |(focus (cases hif;done)) |((try simp only[JH]at hif);try exact hy_)) |((with_reducible first|apply J22 zc_ za_|apply J23 fol zc_ za_|apply J24);(·rfl);(· exact k52_);(try kernel_rfl);try exact k46_)|fail)
       refine At.nextB hA [0,1,2,3,4,5,15,16] (DY.mk (DZ.mk (D.set (i+1).toNat (D.getD i.toNat 0+1)) (w++[i+1])) false) ?_ rfl rfl rfl ?_ rfl ?_ ?_ ?_ rfl
       ·exact DWI.next hx hc I hz
       ·exact k29_
       ·exact k6_
       ·exact k28_
       ·exact k6_
      ·repeat' (first|refine Ctl.h ?_ |((with_reducible intro hif);first |(focus (cases hif;done)) |((try simp only[JH]at hif);try exact hy_)) |((with_reducible first|apply J22 zc_ za_|apply J23 fol zc_ za_|apply J24);(·rfl);(· exact k52_);(try kernel_rfl);try exact k46_)|fail)
       with_reducible apply At.roundNormal
       ·exact k32_
       apply hnext
       with_reducible apply At.runEnd zc_ za_
       ·rfl
       ·rfl
       ·rfl
       ·exact k33_
       ·exact k21_
       repeat' (first|refine Ctl.h ?_ |((with_reducible intro hif);first |(focus (cases hif;done)) |((try simp only[JH]at hif);try exact hy_)) |((with_reducible first|apply J22 zc_ za_|apply J23 fol zc_ za_|apply J24);(·rfl);(· exact k52_);(try kernel_rfl);try exact k46_)|fail)
       have hz:disS xs ⟨D,i::w⟩=⟨D,w⟩:=by
        show (ya_ (xs.getD i.toNat ⟨0,0,0,0,0⟩) i).foldl (visZ i) ⟨D,w⟩=_
        rw[hX,hE]
        simp only[List.foldl_cons,List.foldl_nil]
        rw[vis_n hv0]
        rw[vis_n hv1]
       with_reducible apply At.itNormal .ready
       ·rfl
       ·rfl
       ·intro h;cases h
       apply haft
       intro w1 M1 D1 hA
       dsimp only
       repeat' (first|refine Ctl.h ?_ |((with_reducible intro hif);first |(focus (cases hif;done)) |((try simp only[JH]at hif);try exact hy_)) |((with_reducible first|apply J22 zc_ za_|apply J23 fol zc_ za_|apply J24);(·rfl);(· exact k52_);(try kernel_rfl);try exact k46_)|fail)
       refine At.nextB hA [0,1,2,3,4,5,9,14] (DY.mk (DZ.mk D w) false) ?_ rfl rfl rfl ?_ rfl ?_ ?_ ?_ rfl
       ·exact DWI.next hx hc I hz
       ·exact k19_
       ·exact k6_
       ·exact k28_
       ·exact k6_
    ·simp only[Bool.not_eq_true]at hG
     have hE:ya_ x i=[zv_ x]:=by unfold ya_;simp[hT,hG,hle,hgt]
     have k00:0≤zv_ x:=by omega
     have k01:(zv_ x).toNat < xs.length:=by omega
     repeat' (first|refine Ctl.h ?_ |((with_reducible intro hif);first |(focus (cases hif;done)) |((try simp only[JH]at hif);try exact hy_)) |((with_reducible first|apply J22 zc_ za_|apply J23 fol zc_ za_|apply J24);(·rfl);(· exact k48_);(try kernel_rfl);try exact k46_)|fail)
     with_reducible apply WF.split 9 2
     ·rfl
     with_reducible apply At.run zc_ za_
     ·rfl
     ·rfl
     ·rfl
     ·exact k20_
     ·exact k21_
     with_reducible apply At.yield (gr:=_)
     ·rfl
     ·rfl
     ·rfl
     ·rfl
     ·rfl
     ·rfl
     ·exact k20_
     ·exact k22_
     ·exact k20_
     ·exact k21_
     ·exact k20_
     ·exact k21_
     ·exact k22_
     ·exact hrec
     ·exact hcf
     ·rfl
     ·rfl
     ·rfl
     intro lb E2 next hE2 hnext
     repeat' (first|refine Ctl.h ?_ |((with_reducible intro hif);first |(focus (cases hif;done)) |((try simp only[JH]at hif);try exact hy_)) |((with_reducible first|apply J22 zc_ za_|apply J23 fol zc_ za_|apply J24);(·rfl);(· exact k48_);(try kernel_rfl);try exact k46_)|fail)
     with_reducible apply At.begins hrec
     ·rfl
     with_reducible refine At.code ?_
     by_cases hv0:D.getD (zv_ x).toNat 0 < 0
     ·exact d20_
     ·exact d21_
   ·have hgt:i < zv_ x:=by omega
    by_cases hG:goesB x=true
    ·have hgo:=hgo hG
     by_cases hg:i+1 < zv_ x
     ·have hE:ya_ x i=[i+1,zv_ x]:=by unfold ya_;simp[hT,hG,hle,hgt,hg]
      have k00:0≤i+1:=by omega
      have k01:(i+1).toNat < xs.length:=by omega
      have k10:0≤zv_ x:=by omega
      have k11:(zv_ x).toNat < xs.length:=by omega
      have hne:¬((zv_ x).toNat=(i+1).toNat):=by omega
      repeat' (first|refine Ctl.h ?_ |((with_reducible intro hif);first |(focus (cases hif;done)) |((try simp only[JH]at hif);try exact hy_)) |((with_reducible first|apply J22 zc_ za_|apply J23 fol zc_ za_|apply J24);(·rfl);(· exact k53_);(try kernel_rfl);try exact k46_)|fail)
      with_reducible apply WF.split 5 2
      ·rfl
      with_reducible apply At.run zc_ za_
      ·rfl
      ·rfl
      ·rfl
      ·exact k34_
      ·exact k21_
      with_reducible apply At.yield (gr:=_)
      ·rfl
      ·rfl
      ·rfl
      ·rfl
      ·rfl
      ·rfl
      ·exact k34_
      ·exact k35_
      ·exact k34_
      ·exact k21_
      ·exact k34_
      ·exact k21_
      ·exact k35_
      ·exact hrec
      ·exact hcf
      ·rfl
      ·rfl
      ·rfl
      intro lb E2 next hE2 hnext
      repeat' (first|refine Ctl.h ?_ |((with_reducible intro hif);first |(focus (cases hif;done)) |((try simp only[JH]at hif);try exact hy_)) |((with_reducible first|apply J22 zc_ za_|apply J23 fol zc_ za_|apply J24);(·rfl);(· exact k53_);(try kernel_rfl);try exact k46_)|fail)
      with_reducible apply At.begins hrec
      ·rfl
      with_reducible refine At.code ?_
      by_cases hv0:D.getD (i+1).toNat 0 < 0
      ·have hni:¬(i.toNat=(i+1).toNat):=fun e=>by rw[←e]at hv0;omega
       repeat' (first|refine Ctl.h ?_ |((with_reducible intro hif);first |(focus (cases hif;done)) |((try simp only[JH]at hif);try exact hy_)) |((with_reducible first|apply J22 zc_ za_|apply J23 fol zc_ za_|apply J24);(·rfl);(· exact k54_);(try kernel_rfl);try exact k46_)|fail)
       with_reducible apply At.roundNormal
       ·exact k36_
       apply hnext
       with_reducible apply At.runEnd zc_ za_
       ·rfl
       ·rfl
       ·rfl
       ·exact k37_
       ·exact k21_
       repeat' (first|refine Ctl.h ?_ |((with_reducible intro hif);first |(focus (cases hif;done)) |((try simp only[JH]at hif);try exact hy_)) |((with_reducible first|apply J22 zc_ za_|apply J23 fol zc_ za_|apply J24);(·rfl);(· exact k54_);(try kernel_rfl);try exact k46_)|fail)
       with_reducible apply WF.split 2 0
       ·rfl
       with_reducible apply At.run zc_ za_
       ·rfl
       ·rfl
       ·rfl
       ·exact k37_
       ·exact k21_
       with_reducible apply At.yield (gr:=_)
       ·rfl
       ·rfl
       ·rfl
       ·rfl
       ·rfl
       ·rfl
       ·exact k37_
       ·exact k36_
       ·exact k37_
       ·exact k21_
       ·exact k37_
       ·exact k21_
       ·exact k36_
       ·exact hrec
       ·exact hcf
       ·rfl
       ·rfl
       ·rfl
       intro lb E2 next hE2 hnext
       repeat' (first|refine Ctl.h ?_ |((with_reducible intro hif);first |(focus (cases hif;done)) |((try simp only[JH]at hif);try exact hy_)) |((with_reducible first|apply J22 zc_ za_|apply J23 fol zc_ za_|apply J24);(·rfl);(· exact k54_);(try kernel_rfl);try exact k46_)|fail)
       with_reducible apply At.begins hrec
       ·rfl
       with_reducible refine At.code ?_
       by_cases hv1:D.getD (zv_ x).toNat 0 < 0
       ·have hadd:-9223372036854775808≤(bif decide (0+i.toNat=(i+1).toNat)then D.getD i.toNat 0+1 else D.getD (0+i.toNat) 0)+((1:Nat):Int)∧(bif decide (0+i.toNat=(i+1).toNat)then D.getD i.toNat 0+1 else D.getD (0+i.toNat) 0)+((1:Nat):Int)≤9223372036854775807:=by
         rw[Nat.zero_add,decide_eq_false hni,cond_false];omega
        repeat' (first|refine Ctl.h ?_ |((with_reducible intro hif);first |(focus (cases hif;done)) |((try simp only[JH]at hif);try exact hy_)) |((with_reducible first|apply J22 zc_ za_|apply J23 fol zc_ za_|apply J24);(·rfl);(· exact k55_);(try kernel_rfl);try exact k46_)|fail)
        with_reducible apply At.roundNormal
        ·exact k38_
        apply hnext
        with_reducible apply At.runEnd zc_ za_
        ·rfl
        ·rfl
        ·rfl
        ·exact k39_
        ·exact k21_
        repeat' (first|refine Ctl.h ?_ |((with_reducible intro hif);first |(focus (cases hif;done)) |((try simp only[JH]at hif);try exact hy_)) |((with_reducible first|apply J22 zc_ za_|apply J23 fol zc_ za_|apply J24);(·rfl);(· exact k55_);(try kernel_rfl);try exact k46_)|fail)
        have hz:disS xs ⟨D,i::w⟩=⟨((D.set (i+1).toNat (D.getD i.toNat 0+1)).set (zv_ x).toNat (D.getD i.toNat 0+1)),((w++[i+1])++[zv_ x])⟩:=by
         show (ya_ (xs.getD i.toNat ⟨0,0,0,0,0⟩) i).foldl (visZ i) ⟨D,w⟩=_
         rw[hX,hE]
         simp only[List.foldl_cons,List.foldl_nil]
         rw[vis_p hv0]
         rw[vis_q hDl k01 hne hni hv1]
        with_reducible apply At.itNormal .ready
        ·rfl
        ·rfl
        ·intro h;cases h
        apply haft
        intro w1 M1 D1 hA
        dsimp only
        repeat' (first|refine Ctl.h ?_ |((with_reducible intro hif);first |(focus (cases hif;done)) |((try simp only[JH]at hif);try exact hy_)) |((with_reducible first|apply J22 zc_ za_|apply J23 fol zc_ za_|apply J24);(·rfl);(· exact k55_);(try kernel_rfl);try exact k46_)|fail)
        refine At.nextB hA [0,1,2,3,4,5,17,18] (DY.mk (DZ.mk ((D.set (i+1).toNat (D.getD i.toNat 0+1)).set (zv_ x).toNat (D.getD i.toNat 0+1)) ((w++[i+1])++[zv_ x])) false) ?_ rfl rfl rfl ?_ rfl ?_ ?_ ?_ rfl
        ·exact DWI.next hx hc I hz
        ·exact k27_
        ·exact k6_
        ·exact k28_
        ·exact k6_
       ·repeat' (first|refine Ctl.h ?_ |((with_reducible intro hif);first |(focus (cases hif;done)) |((try simp only[JH]at hif);try exact hy_)) |((with_reducible first|apply J22 zc_ za_|apply J23 fol zc_ za_|apply J24);(·rfl);(· exact k55_);(try kernel_rfl);try exact k46_)|fail)
        with_reducible apply At.roundNormal
        ·exact k38_
        apply hnext
        with_reducible apply At.runEnd zc_ za_
        ·rfl
        ·rfl
        ·rfl
        ·exact k39_
        ·exact k21_
        repeat' (first|refine Ctl.h ?_ |((with_reducible intro hif);first |(focus (cases hif;done)) |((try simp only[JH]at hif);try exact hy_)) |((with_reducible first|apply J22 zc_ za_|apply J23 fol zc_ za_|apply J24);(·rfl);(· exact k55_);(try kernel_rfl);try exact k46_)|fail)
        have hz:disS xs ⟨D,i::w⟩=⟨(D.set (i+1).toNat (D.getD i.toNat 0+1)),(w++[i+1])⟩:=by
         show (ya_ (xs.getD i.toNat ⟨0,0,0,0,0⟩) i).foldl (visZ i) ⟨D,w⟩=_
         rw[hX,hE]
         simp only[List.foldl_cons,List.foldl_nil]
         rw[vis_p hv0]
         rw[vis_m hDl k01 hne hv1]
        with_reducible apply At.itNormal .ready
        ·rfl
        ·rfl
        ·intro h;cases h
        apply haft
        intro w1 M1 D1 hA
        dsimp only
        repeat' (first|refine Ctl.h ?_ |((with_reducible intro hif);first |(focus (cases hif;done)) |((try simp only[JH]at hif);try exact hy_)) |((with_reducible first|apply J22 zc_ za_|apply J23 fol zc_ za_|apply J24);(·rfl);(· exact k55_);(try kernel_rfl);try exact k46_)|fail)
        refine At.nextB hA [0,1,2,3,4,5,15,16] (DY.mk (DZ.mk (D.set (i+1).toNat (D.getD i.toNat 0+1)) (w++[i+1])) false) ?_ rfl rfl rfl ?_ rfl ?_ ?_ ?_ rfl
        ·exact DWI.next hx hc I hz
        ·exact k29_
        ·exact k6_
        ·exact k28_
        ·exact k6_
      ·repeat' (first|refine Ctl.h ?_ |((with_reducible intro hif);first |(focus (cases hif;done)) |((try simp only[JH]at hif);try exact hy_)) |((with_reducible first|apply J22 zc_ za_|apply J23 fol zc_ za_|apply J24);(·rfl);(· exact k56_);(try kernel_rfl);try exact k46_)|fail)
       with_reducible apply At.roundNormal
       ·exact k40_
       apply hnext
       with_reducible apply At.runEnd zc_ za_
       ·rfl
       ·rfl
       ·rfl
       ·exact k41_
       ·exact k21_
       repeat' (first|refine Ctl.h ?_ |((with_reducible intro hif);first |(focus (cases hif;done)) |((try simp only[JH]at hif);try exact hy_)) |((with_reducible first|apply J22 zc_ za_|apply J23 fol zc_ za_|apply J24);(·rfl);(· exact k56_);(try kernel_rfl);try exact k46_)|fail)
       with_reducible apply WF.split 2 0
       ·rfl
       with_reducible apply At.run zc_ za_
       ·rfl
       ·rfl
       ·rfl
       ·exact k41_
       ·exact k21_
       with_reducible apply At.yield (gr:=_)
       ·rfl
       ·rfl
       ·rfl
       ·rfl
       ·rfl
       ·rfl
       ·exact k41_
       ·exact k40_
       ·exact k41_
       ·exact k21_
       ·exact k41_
       ·exact k21_
       ·exact k40_
       ·exact hrec
       ·exact hcf
       ·rfl
       ·rfl
       ·rfl
       intro lb E2 next hE2 hnext
       repeat' (first|refine Ctl.h ?_ |((with_reducible intro hif);first |(focus (cases hif;done)) |((try simp only[JH]at hif);try exact hy_)) |((with_reducible first|apply J22 zc_ za_|apply J23 fol zc_ za_|apply J24);(·rfl);(· exact k56_);(try kernel_rfl);try exact k46_)|fail)
       with_reducible apply At.begins hrec
       ·rfl
       with_reducible refine At.code ?_
       by_cases hv1:D.getD (zv_ x).toNat 0 < 0
       ·repeat' (first|refine Ctl.h ?_ |((with_reducible intro hif);first |(focus (cases hif;done)) |((try simp only[JH]at hif);try exact hy_)) |((with_reducible first|apply J22 zc_ za_|apply J23 fol zc_ za_|apply J24);(·rfl);(· exact k57_);(try kernel_rfl);try exact k46_)|fail)
        with_reducible apply At.roundNormal
        ·exact k42_
        apply hnext
        with_reducible apply At.runEnd zc_ za_
        ·rfl
        ·rfl
        ·rfl
        ·exact k43_
        ·exact k21_
        repeat' (first|refine Ctl.h ?_ |((with_reducible intro hif);first |(focus (cases hif;done)) |((try simp only[JH]at hif);try exact hy_)) |((with_reducible first|apply J22 zc_ za_|apply J23 fol zc_ za_|apply J24);(·rfl);(· exact k57_);(try kernel_rfl);try exact k46_)|fail)
        have hz:disS xs ⟨D,i::w⟩=⟨(D.set (zv_ x).toNat (D.getD i.toNat 0+1)),(w++[zv_ x])⟩:=by
         show (ya_ (xs.getD i.toNat ⟨0,0,0,0,0⟩) i).foldl (visZ i) ⟨D,w⟩=_
         rw[hX,hE]
         simp only[List.foldl_cons,List.foldl_nil]
         rw[vis_n hv0]
         rw[vis_p hv1]
        with_reducible apply At.itNormal .ready
        ·rfl
        ·rfl
        ·intro h;cases h
        apply haft
        intro w1 M1 D1 hA
        dsimp only
        repeat' (first|refine Ctl.h ?_ |((with_reducible intro hif);first |(focus (cases hif;done)) |((try simp only[JH]at hif);try exact hy_)) |((with_reducible first|apply J22 zc_ za_|apply J23 fol zc_ za_|apply J24);(·rfl);(· exact k57_);(try kernel_rfl);try exact k46_)|fail)
        refine At.nextB hA [0,1,2,3,4,5,15,16] (DY.mk (DZ.mk (D.set (zv_ x).toNat (D.getD i.toNat 0+1)) (w++[zv_ x])) false) ?_ rfl rfl rfl ?_ rfl ?_ ?_ ?_ rfl
        ·exact DWI.next hx hc I hz
        ·exact k29_
        ·exact k6_
        ·exact k28_
        ·exact k6_
       ·repeat' (first|refine Ctl.h ?_ |((with_reducible intro hif);first |(focus (cases hif;done)) |((try simp only[JH]at hif);try exact hy_)) |((with_reducible first|apply J22 zc_ za_|apply J23 fol zc_ za_|apply J24);(·rfl);(· exact k57_);(try kernel_rfl);try exact k46_)|fail)
        with_reducible apply At.roundNormal
        ·exact k42_
        apply hnext
        with_reducible apply At.runEnd zc_ za_
        ·rfl
        ·rfl
        ·rfl
        ·exact k43_
        ·exact k21_
        repeat' (first|refine Ctl.h ?_ |((with_reducible intro hif);first |(focus (cases hif;done)) |((try simp only[JH]at hif);try exact hy_)) |((with_reducible first|apply J22 zc_ za_|apply J23 fol zc_ za_|apply J24);(·rfl);(· exact k57_);(try kernel_rfl);try exact k46_)|fail)
        have hz:disS xs ⟨D,i::w⟩=⟨D,w⟩:=by
         show (ya_ (xs.getD i.toNat ⟨0,0,0,0,0⟩) i).foldl (visZ i) ⟨D,w⟩=_
         rw[hX,hE]
         simp only[List.foldl_cons,List.foldl_nil]
         rw[vis_n hv0]
         rw[vis_n hv1]
        with_reducible apply At.itNormal .ready
        ·rfl
        ·rfl
        ·intro h;cases h
        apply haft
        intro w1 M1 D1 hA
        dsimp only
        repeat' (first|refine Ctl.h ?_ |((with_reducible intro hif);first |(focus (cases hif;done)) |((try simp only[JH]at hif);try exact hy_)) |((with_reducible first|apply J22 zc_ za_|apply J23 fol zc_ za_|apply J24);(·rfl);(· exact k57_);(try kernel_rfl);try exact k46_)|fail)
        refine At.nextB hA [0,1,2,3,4,5,9,14] (DY.mk (DZ.mk D w) false) ?_ rfl rfl rfl ?_ rfl ?_ ?_ ?_ rfl
        ·exact DWI.next hx hc I hz
        ·exact k19_
        ·exact k6_
        ·exact k28_
        ·exact k6_
     ·have hE:ya_ x i=[i+1]:=by unfold ya_;simp[hT,hG,hle,hgt,hg]
      have k00:0≤i+1:=by omega
      have k01:(i+1).toNat < xs.length:=by omega
      repeat' (first|refine Ctl.h ?_ |((with_reducible intro hif);first |(focus (cases hif;done)) |((try simp only[JH]at hif);try exact hy_)) |((with_reducible first|apply J22 zc_ za_|apply J23 fol zc_ za_|apply J24);(·rfl);(· exact k53_);(try kernel_rfl);try exact k46_)|fail)
      with_reducible apply WF.split 5 2
      ·rfl
      with_reducible apply At.run zc_ za_
      ·rfl
      ·rfl
      ·rfl
      ·exact k34_
      ·exact k21_
      with_reducible apply At.yield (gr:=_)
      ·rfl
      ·rfl
      ·rfl
      ·rfl
      ·rfl
      ·rfl
      ·exact k34_
      ·exact k35_
      ·exact k34_
      ·exact k21_
      ·exact k34_
      ·exact k21_
      ·exact k35_
      ·exact hrec
      ·exact hcf
      ·rfl
      ·rfl
      ·rfl
      intro lb E2 next hE2 hnext
      repeat' (first|refine Ctl.h ?_ |((with_reducible intro hif);first |(focus (cases hif;done)) |((try simp only[JH]at hif);try exact hy_)) |((with_reducible first|apply J22 zc_ za_|apply J23 fol zc_ za_|apply J24);(·rfl);(· exact k53_);(try kernel_rfl);try exact k46_)|fail)
      with_reducible apply At.begins hrec
      ·rfl
      with_reducible refine At.code ?_
      by_cases hv0:D.getD (i+1).toNat 0 < 0
      ·have hni:¬(i.toNat=(i+1).toNat):=fun e=>by rw[←e]at hv0;omega
       repeat' (first|refine Ctl.h ?_ |((with_reducible intro hif);first |(focus (cases hif;done)) |((try simp only[JH]at hif);try exact hy_)) |((with_reducible first|apply J22 zc_ za_|apply J23 fol zc_ za_|apply J24);(·rfl);(· exact k54_);(try kernel_rfl);try exact k46_)|fail)
       with_reducible apply At.roundNormal
       ·exact k36_
       apply hnext
       with_reducible apply At.runEnd zc_ za_
       ·rfl
       ·rfl
       ·rfl
       ·exact k37_
       ·exact k21_
       repeat' (first|refine Ctl.h ?_ |((with_reducible intro hif);first |(focus (cases hif;done)) |((try simp only[JH]at hif);try exact hy_)) |((with_reducible first|apply J22 zc_ za_|apply J23 fol zc_ za_|apply J24);(·rfl);(· exact k54_);(try kernel_rfl);try exact k46_)|fail)
       have hz:disS xs ⟨D,i::w⟩=⟨(D.set (i+1).toNat (D.getD i.toNat 0+1)),(w++[i+1])⟩:=by
        show (ya_ (xs.getD i.toNat ⟨0,0,0,0,0⟩) i).foldl (visZ i) ⟨D,w⟩=_
        rw[hX,hE]
        simp only[List.foldl_cons,List.foldl_nil]
        rw[vis_p hv0]
       with_reducible apply At.itNormal .ready
       ·rfl
       ·rfl
       ·intro h;cases h
       apply haft
       intro w1 M1 D1 hA
       dsimp only
       repeat' (first|refine Ctl.h ?_ |((with_reducible intro hif);first |(focus (cases hif;done)) |((try simp only[JH]at hif);try exact hy_)) |((with_reducible first|apply J22 zc_ za_|apply J23 fol zc_ za_|apply J24);(·rfl);(· exact k54_);(try kernel_rfl);try exact k46_)|fail)
       refine At.nextB hA [0,1,2,3,4,5,15,16] (DY.mk (DZ.mk (D.set (i+1).toNat (D.getD i.toNat 0+1)) (w++[i+1])) false) ?_ rfl rfl rfl ?_ rfl ?_ ?_ ?_ rfl
       ·exact DWI.next hx hc I hz
       ·exact k29_
       ·exact k6_
       ·exact k28_
       ·exact k6_
      ·repeat' (first|refine Ctl.h ?_ |((with_reducible intro hif);first |(focus (cases hif;done)) |((try simp only[JH]at hif);try exact hy_)) |((with_reducible first|apply J22 zc_ za_|apply J23 fol zc_ za_|apply J24);(·rfl);(· exact k56_);(try kernel_rfl);try exact k46_)|fail)
       with_reducible apply At.roundNormal
       ·exact k40_
       apply hnext
       with_reducible apply At.runEnd zc_ za_
       ·rfl
       ·rfl
       ·rfl
       ·exact k41_
       ·exact k21_
       repeat' (first|refine Ctl.h ?_ |((with_reducible intro hif);first |(focus (cases hif;done)) |((try simp only[JH]at hif);try exact hy_)) |((with_reducible first|apply J22 zc_ za_|apply J23 fol zc_ za_|apply J24);(·rfl);(· exact k56_);(try kernel_rfl);try exact k46_)|fail)
       have hz:disS xs ⟨D,i::w⟩=⟨D,w⟩:=by
        show (ya_ (xs.getD i.toNat ⟨0,0,0,0,0⟩) i).foldl (visZ i) ⟨D,w⟩=_
        rw[hX,hE]
        simp only[List.foldl_cons,List.foldl_nil]
        rw[vis_n hv0]
       with_reducible apply At.itNormal .ready
       ·rfl
       ·rfl
       ·intro h;cases h
       apply haft
       intro w1 M1 D1 hA
       dsimp only
       repeat' (first|refine Ctl.h ?_ |((with_reducible intro hif);first |(focus (cases hif;done)) |((try simp only[JH]at hif);try exact hy_)) |((with_reducible first|apply J22 zc_ za_|apply J23 fol zc_ za_|apply J24);(·rfl);(· exact k56_);(try kernel_rfl);try exact k46_)|fail)
       refine At.nextB hA [0,1,2,3,4,5,9,14] (DY.mk (DZ.mk D w) false) ?_ rfl rfl rfl ?_ rfl ?_ ?_ ?_ rfl
       ·exact DWI.next hx hc I hz
       ·exact k19_
       ·exact k6_
       ·exact k28_
       ·exact k6_
    ·simp only[Bool.not_eq_true]at hG
     have hE:ya_ x i=[zv_ x]:=by unfold ya_;simp[hT,hG,hle,hgt]
     have k00:0≤zv_ x:=by omega
     have k01:(zv_ x).toNat < xs.length:=by omega
     repeat' (first|refine Ctl.h ?_ |((with_reducible intro hif);first |(focus (cases hif;done)) |((try simp only[JH]at hif);try exact hy_)) |((with_reducible first|apply J22 zc_ za_|apply J23 fol zc_ za_|apply J24);(·rfl);(· exact k48_);(try kernel_rfl);try exact k46_)|fail)
     with_reducible apply WF.split 2 0
     ·rfl
     with_reducible apply At.run zc_ za_
     ·rfl
     ·rfl
     ·rfl
     ·exact k20_
     ·exact k21_
     with_reducible apply At.yield (gr:=_)
     ·rfl
     ·rfl
     ·rfl
     ·rfl
     ·rfl
     ·rfl
     ·exact k20_
     ·exact k22_
     ·exact k20_
     ·exact k21_
     ·exact k20_
     ·exact k21_
     ·exact k22_
     ·exact hrec
     ·exact hcf
     ·rfl
     ·rfl
     ·rfl
     intro lb E2 next hE2 hnext
     repeat' (first|refine Ctl.h ?_ |((with_reducible intro hif);first |(focus (cases hif;done)) |((try simp only[JH]at hif);try exact hy_)) |((with_reducible first|apply J22 zc_ za_|apply J23 fol zc_ za_|apply J24);(·rfl);(· exact k48_);(try kernel_rfl);try exact k46_)|fail)
     with_reducible apply At.begins hrec
     ·rfl
     with_reducible refine At.code ?_
     by_cases hv0:D.getD (zv_ x).toNat 0 < 0
     ·exact d20_
     ·exact d21_
  ·simp only[Bool.not_eq_true]at hT
   by_cases hG:goesB x=true
   ·have hgo:=hgo hG
    have hE:ya_ x i=[i+1]:=by unfold ya_;simp[hT,hG]
    have k00:0≤i+1:=by omega
    have k01:(i+1).toNat < xs.length:=by omega
    repeat' (first|refine Ctl.h ?_ |((with_reducible intro hif);first |(focus (cases hif;done)) |((try simp only[JH]at hif);try exact hy_)) |((with_reducible first|apply J22 zc_ za_|apply J23 fol zc_ za_|apply J24);(·rfl);(· exact k58_);(try kernel_rfl);try exact k46_)|fail)
    with_reducible apply WF.split 5 2
    ·rfl
    with_reducible apply At.run zc_ za_
    ·rfl
    ·rfl
    ·rfl
    ·exact k44_
    ·exact k21_
    with_reducible apply At.yield (gr:=_)
    ·rfl
    ·rfl
    ·rfl
    ·rfl
    ·rfl
    ·rfl
    ·exact k44_
    ·exact k45_
    ·exact k44_
    ·exact k21_
    ·exact k44_
    ·exact k21_
    ·exact k45_
    ·exact hrec
    ·exact hcf
    ·rfl
    ·rfl
    ·rfl
    intro lb E2 next hE2 hnext
    repeat' (first|refine Ctl.h ?_ |((with_reducible intro hif);first |(focus (cases hif;done)) |((try simp only[JH]at hif);try exact hy_)) |((with_reducible first|apply J22 zc_ za_|apply J23 fol zc_ za_|apply J24);(·rfl);(· exact k58_);(try kernel_rfl);try exact k46_)|fail)
    with_reducible apply At.begins hrec
    ·rfl
    with_reducible refine At.code ?_
    by_cases hv0:D.getD (i+1).toNat 0 < 0
    ·have hni:¬(i.toNat=(i+1).toNat):=fun e=>by rw[←e]at hv0;omega
     repeat' (first|refine Ctl.h ?_ |((with_reducible intro hif);first |(focus (cases hif;done)) |((try simp only[JH]at hif);try exact hy_)) |((with_reducible first|apply J22 zc_ za_|apply J23 fol zc_ za_|apply J24);(·rfl);(· exact k59_);(try kernel_rfl);try exact k46_)|fail)
     with_reducible apply At.roundNormal
     ·first|rfl |(simp only[push_cast,↓JP,Nat.reduceAdd,Nat.reduceEqDiff,Nat.reduceLT,Nat.reduceMul,Nat.reduceLeDiff,reduceCtorEq,reduceIte,↓JK,zu_,List.drop_zero,List.drop_succ_cons,cDi,yv_,sRepZ,yw_,z9_,zy_,lsPd,ye_,z4_,hr0,inR,inN,List.all_cons,List.all_nil,Int.toNat_natCast,Nat.zero_add,zf_,zj_,hX,hT,hG,Int.reduceNeg,hv0,hni];done)
     apply hnext
     with_reducible apply At.runEnd zc_ za_
     ·rfl
     ·rfl
     ·rfl
     ·simp only[push_cast,↓JP,Nat.reduceAdd,Nat.reduceEqDiff,Nat.reduceLT,Nat.reduceMul,Nat.reduceLeDiff,reduceCtorEq,reduceIte,↓JK,zu_,List.drop_zero,List.drop_succ_cons,cDi,yv_,sRepZ,yw_,z9_,zy_,lsPd,ye_,z4_,hr0,inR,inN,List.all_cons,List.all_nil,Int.toNat_natCast,Nat.zero_add,zf_,zj_,hX,hT,hG,Int.reduceNeg,hv0,hni];rfl
     ·exact k21_
     repeat' (first|refine Ctl.h ?_ |((with_reducible intro hif);first |(focus (cases hif;done)) |((try simp only[JH]at hif);try exact hy_)) |((with_reducible first|apply J22 zc_ za_|apply J23 fol zc_ za_|apply J24);(·rfl);(· exact k59_);(try kernel_rfl);try exact k46_)|fail)
     have hz:disS xs ⟨D,i::w⟩=⟨(D.set (i+1).toNat (D.getD i.toNat 0+1)),(w++[i+1])⟩:=by
      show (ya_ (xs.getD i.toNat ⟨0,0,0,0,0⟩) i).foldl (visZ i) ⟨D,w⟩=_
      rw[hX,hE]
      simp only[List.foldl_cons,List.foldl_nil]
      rw[vis_p hv0]
     with_reducible apply At.itNormal .ready
     ·rfl
     ·rfl
     ·intro h;cases h
     apply haft
     intro w1 M1 D1 hA
     dsimp only
     repeat' (first|refine Ctl.h ?_ |((with_reducible intro hif);first |(focus (cases hif;done)) |((try simp only[JH]at hif);try exact hy_)) |((with_reducible first|apply J22 zc_ za_|apply J23 fol zc_ za_|apply J24);(·rfl);(· exact k59_);(try kernel_rfl);try exact k46_)|fail)
     refine At.nextB hA [0,1,2,3,4,5,15,16] (DY.mk (DZ.mk (D.set (i+1).toNat (D.getD i.toNat 0+1)) (w++[i+1])) false) ?_ rfl rfl rfl ?_ rfl ?_ ?_ ?_ rfl
     ·exact DWI.next hx hc I hz
     ·exact k29_
     ·exact k6_
     ·exact k28_
     ·exact k6_
    ·repeat' (first|refine Ctl.h ?_ |((with_reducible intro hif);first |(focus (cases hif;done)) |((try simp only[JH]at hif);try exact hy_)) |((with_reducible first|apply J22 zc_ za_|apply J23 fol zc_ za_|apply J24);(·rfl);(· exact k60_);(try kernel_rfl);try exact k46_)|fail)
     with_reducible apply At.roundNormal
     ·first|rfl |(simp only[push_cast,↓JP,Nat.reduceAdd,Nat.reduceEqDiff,Nat.reduceLT,Nat.reduceMul,Nat.reduceLeDiff,reduceCtorEq,reduceIte,↓JK,zu_,List.drop_zero,List.drop_succ_cons,cDi,yv_,sRepZ,yw_,z9_,zy_,lsPd,ye_,z4_,hr0,inR,inN,List.all_cons,List.all_nil,Int.toNat_natCast,Nat.zero_add,zf_,zj_,hX,hT,hG,Int.reduceNeg,hv0];done)
     apply hnext
     with_reducible apply At.runEnd zc_ za_
     ·rfl
     ·rfl
     ·rfl
     ·simp only[push_cast,↓JP,Nat.reduceAdd,Nat.reduceEqDiff,Nat.reduceLT,Nat.reduceMul,Nat.reduceLeDiff,reduceCtorEq,reduceIte,↓JK,zu_,List.drop_zero,List.drop_succ_cons,cDi,yv_,sRepZ,yw_,z9_,zy_,lsPd,ye_,z4_,hr0,inR,inN,List.all_cons,List.all_nil,Int.toNat_natCast,Nat.zero_add,zf_,zj_,hX,hT,hG,Int.reduceNeg,hv0];rfl
     ·exact k21_
     repeat' (first|refine Ctl.h ?_ |((with_reducible intro hif);first |(focus (cases hif;done)) |((try simp only[JH]at hif);try exact hy_)) |((with_reducible first|apply J22 zc_ za_|apply J23 fol zc_ za_|apply J24);(·rfl);(· exact k60_);(try kernel_rfl);try exact k46_)|fail)
     have hz:disS xs ⟨D,i::w⟩=⟨D,w⟩:=by
      show (ya_ (xs.getD i.toNat ⟨0,0,0,0,0⟩) i).foldl (visZ i) ⟨D,w⟩=_
      rw[hX,hE]
      simp only[List.foldl_cons,List.foldl_nil]
      rw[vis_n hv0]
     with_reducible apply At.itNormal .ready
     ·rfl
     ·rfl
     ·intro h;cases h
     apply haft
     intro w1 M1 D1 hA
     dsimp only
     repeat' (first|refine Ctl.h ?_ |((with_reducible intro hif);first |(focus (cases hif;done)) |((try simp only[JH]at hif);try exact hy_)) |((with_reducible first|apply J22 zc_ za_|apply J23 fol zc_ za_|apply J24);(·rfl);(· exact k60_);(try kernel_rfl);try exact k46_)|fail)
     refine At.nextB hA [0,1,2,3,4,5,9,14] (DY.mk (DZ.mk D w) false) ?_ rfl rfl rfl ?_ rfl ?_ ?_ ?_ rfl
     ·exact DWI.next hx hc I hz
     ·exact k19_
     ·exact k6_
     ·exact k28_
     ·exact k6_
   ·simp only[Bool.not_eq_true]at hG
    have hE:ya_ x i=[]:=by unfold ya_;simp[hT,hG]
    repeat' (first|refine Ctl.h ?_ |((with_reducible intro hif);first |(focus (cases hif;done)) |((try simp only[JH]at hif);try exact hy_)) |((with_reducible first|apply J22 zc_ za_|apply J23 fol zc_ za_|apply J24);(·rfl);(· exact k58_);(try kernel_rfl);try exact k46_)|fail)
    have hz:disS xs ⟨D,i::w⟩=⟨D,w⟩:=by
     show (ya_ (xs.getD i.toNat ⟨0,0,0,0,0⟩) i).foldl (visZ i) ⟨D,w⟩=_
     rw[hX,hE]
     rfl
    with_reducible apply At.itNormal .ready
    ·rfl
    ·rfl
    ·intro h;cases h
    apply haft
    intro w1 M1 D1 hA
    dsimp only
    repeat' (first|refine Ctl.h ?_ |((with_reducible intro hif);first |(focus (cases hif;done)) |((try simp only[JH]at hif);try exact hy_)) |((with_reducible first|apply J22 zc_ za_|apply J23 fol zc_ za_|apply J24);(·rfl);(· exact k58_);(try kernel_rfl);try exact k46_)|fail)
    refine At.nextB hA [0,1,2,3,4,5,9,14] (DY.mk (DZ.mk D w) false) ?_ rfl rfl rfl ?_ rfl ?_ ?_ ?_ rfl
    ·exact DWI.next hx hc I hz
    ·exact k19_
    ·exact k6_
    ·exact k28_
    ·exact k6_
end Go.Proofs.Ytmljmabbopkpiaa.Vm
end

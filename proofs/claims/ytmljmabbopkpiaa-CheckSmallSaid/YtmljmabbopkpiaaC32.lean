import Derived.Test.YtmljmabbopkpiaaC1
import Derived.Test.YtmljmabbopkpiaaC29
import Derived.Test.YtmljmabbopkpiaaC31
set_option linter.unusedSimpArgs false
set_option linter.unusedVariables false
set_option maxRecDepth 100000
set_option maxHeartbeats 4000000
section
namespace Go.Proofs.Ytmljmabbopkpiaa.Vm
open Go.RowKit
attribute [local push_cast] eqB eqBL allB prS sndsS zw_ nav_ins xs_ xr_ xq_ xp_ xo_ nav_snd xn_ xm_ xl_ yo_ yi_ yv_ yq_ yz_ yy_ iOf nav_k nav_k0 nav_k1 nav_ka nav_kai nav_ft nav_ft0 nav_ft1 isKn_kS knOf_kS isKa_kaS kaOf_kaS isFt_ftS ftOf_ftS setp_ka setp_ftk setp_ftr setp_fti evm_ins evm_snd evm_k evm_ka evm_ft
theorem less_catJ {t:Nat}{σ : Nat→Nat}{b:Bool}(S:List Int)(x:Int){n:Nat}{U:List Int}(hn:S.length=n)(hU:S++[x]=U){m:Nat}(hm:m=U.length){g:Nat→SV}{xv z:SV}(hg:g=fun q=>SV.ite (decide (q < n)) (.int .i64 (S.getD q 0)) ([xv].getD (q - n) z))(hx:∀β,xv.cl β = [.int .i64 x]) :
  Less (.own t (.arr m 1 g) b) ((HB.own t (.arr m 1 (zw_ U)) b).ren σ):=by
 subst hm
 have e:(HB.own t (.arr U.length 1 (zw_ U)) b).ren σ = .own t (.arr U.length 1 (zw_ U)) b:=by
  simp only[HB.ren,SV.ren];congr 2
 rw[e]
 refine .val (fun β=>arrCl fun q hq=>?_) (fun n1 k1 f1 e=>by injection e with e1 e2 e3;subst e1 e2;exact⟨_,rfl⟩) (fun n1 k1 f1 e=>by injection e with e1 e2 e3;subst e1 e2;exact⟨_,rfl⟩)
 subst hg hU hn
 dsimp only
 rw[x1_]
 unfold zw_
 by_cases h:q < S.length
 ·exact d30_
 ·exact d31_
def whyL (xs:List Ins)(F:List Ft)(c p l:Int)(k:Nat):List Int:=(List.range k).map (whyK xs F c p l)
theorem whyL_len (xs:List Ins)(F:List Ft)(c p l:Int)(k:Nat):(whyL xs F c p l k).length=k:=by simp[whyL]
theorem whyL_snoc (xs:List Ins)(F:List Ft)(c p l:Int)(k:Nat):whyL xs F c p l k++[whyK xs F c p l k]=whyL xs F c p l (k+1):=by
 unfold whyL;rw[List.range_succ,List.map_append];rfl
theorem whyL_at (xs:List Ins)(F:List Ft)(c p l:Int){n k:Nat}(h:k < n):(whyL xs F c p l n).getD k 0=whyK xs F c p l k:=by
 unfold whyL
 rw[List.getD_eq_getElem?_getD,List.getElem?_map,List.getElem?_range h];rfl
theorem fitE_ok {xs:List Ins}{c p l:Int}(h:fitE xs c p l=0):(zu_ xs).2=0∧limB c p l=true:=by
 unfold fitE at h
 split at h
 ·rename_i q
  split at h
  ·rename_i q2;exact⟨q,q2⟩
  ·cases h
 ·cases h
def cRWy:FuncId→Option y4_:=xz_ [(77,sRFactR),(148,sRRt17),(149,sRWhy17)]
theorem cRWy_ok:∀f S,cRWy f=some S→zm_ Try.prog f S:=z0_ ⟨sRFactR_ok,sRRt17_ok,sRWhy17_ok,trivial⟩
def cRWb:FuncId→Option y4_:=xz_ [(77,sRFactB),(148,sRRt17),(149,sRWhy17)]
theorem cRWb_ok:∀f S,cRWb f=some S→zm_ Try.prog f S:=z0_ ⟨sRFactB_ok,sRRt17_ok,sRWhy17_ok,trivial⟩
theorem rwhysC_lit (xs:List Ins)(p1:Nat)(c p l:Int)(hx:∀x∈xs,x.ok)(hc:(zu_ xs).2≠0):zz_ Try.prog 116 [.sl 1 2 [] 5 0 xs.length (some p1),.agg [.int .i64 c,.int .i64 p,.int .i64 l]] [.gone,.gone,.ro (.arr xs.length 5 (prS xs))] (.tup [.sl 0 0 [] 0 0 0 (some 0),.int .i64 (fitE xs c p l)]) [.gone]:=by
 have e:fitE xs c p l=170:=by unfold fitE;rw[if_neg hc]
 rw[e]
 have h170:¬((170:Int)=0):=by decide
 refine zf_ (fn:=Try.f116) 3 41 0 rfl rfl rfl rfl rfl u7_ rfl fun w0 M E hro=>?_
 repeat' (first|refine Ctl.h ?_ |((with_reducible intro hif);first |(focus (cases hif;done)) |((try simp only[JH]at hif);try exact hy_)) |((with_reducible first|apply J22 cRWb_ok za_|apply J23 fol cRWb_ok za_|apply J24);(·rfl);(· (simp only[push_cast,↓JP,Nat.reduceAdd,Nat.reduceEqDiff,Nat.reduceLT,Nat.reduceMul,Nat.reduceLeDiff,reduceCtorEq,reduceIte,↓JK,↓JF,cRWb,sRFactB,y9_,yt_,ys_,yu_,yl_,h170];rfl));(try kernel_rfl);try exact k133_)|fail)
 apply At.endsRet za_ (fn:=Try.f116) (rs:=[.tmp 4,.tmp 5]) Anc.refl hro (lb_ rfl) rfl
 ·exact k3_
 ·exact k4_
 ·exact k5_
 ·rfl
 ·exact k6_
 ·exact k7_
 ·exact fun β=>rfl
 ·exact k6_
theorem rwhysL_lit (xs:List Ins)(p1:Nat)(c p l:Int)(hx:∀x∈xs,x.ok)(hc:(zu_ xs).2=0)(hl:limB c p l=false):zz_ Try.prog 116 [.sl 1 2 [] 5 0 xs.length (some p1),.agg [.int .i64 c,.int .i64 p,.int .i64 l]] [.gone,.gone,.ro (.arr xs.length 5 (prS xs))] (.tup [.sl 0 0 [] 0 0 0 (some 0),.int .i64 (fitE xs c p l)]) [.gone]:=by
 have e:fitE xs c p l=171:=by unfold fitE;rw[if_pos hc,hl];rfl
 rw[e]
 have hn:=(yr_ hc).2.1
 refine zf_ (fn:=Try.f116) 3 41 0 rfl rfl rfl rfl rfl u7_ rfl fun w0 M E hro=>?_
 repeat' (first|refine Ctl.h ?_ |((with_reducible intro hif);first |(focus (cases hif;done)) |((try simp only[JH]at hif);try exact hy_)) |((with_reducible first|apply J22 cRWy_ok za_|apply J23 fol cRWy_ok za_|apply J24);(·rfl);(· (simp only[push_cast,↓JP,Nat.reduceAdd,Nat.reduceEqDiff,Nat.reduceLT,Nat.reduceMul,Nat.reduceLeDiff,reduceCtorEq,reduceIte,↓JK,↓JF,cRWy,sRFactR,sRRt17,y9_,yt_,ys_,yu_,yl_,hl];rfl));(try kernel_rfl);try exact k134_)|fail)
 apply At.endsRet za_ (fn:=Try.f116) (rs:=[.tmp 4,.tmp 5]) Anc.refl hro (lb_ rfl) rfl
 ·exact k3_
 ·exact k4_
 ·exact k5_
 ·rfl
 ·exact k6_
 ·exact k7_
 ·exact fun β=>rfl
 ·exact k6_
theorem rwhysB_lit (xs:List Ins)(p1:Nat)(c p l:Int)(hx:∀x∈xs,x.ok)(hf:fitE xs c p l≠0):zz_ Try.prog 116 [.sl 1 2 [] 5 0 xs.length (some p1),.agg [.int .i64 c,.int .i64 p,.int .i64 l]] [.gone,.gone,.ro (.arr xs.length 5 (prS xs))] (.tup [.sl 0 0 [] 0 0 0 (some 0),.int .i64 (fitE xs c p l)]) [.gone]:=by
 by_cases hc:(zu_ xs).2=0
 ·cases hl:limB c p l with
  | false=>exact rwhysL_lit xs p1 c p l hx hc hl
  | true=>exact absurd (by unfold fitE;rw[if_pos hc,if_pos hl]) hf
 ·exact rwhysC_lit xs p1 c p l hx hc
def sRWhyB:y4_:=fun args h m=>match args with
 | [v1,.agg [v2,v3,v4]]=>match srcV h 5 (.tup []) v1 with
  | some (c1,n1,f1,r1)=>bif isI .i64 v2 && isI .i64 v3 && isI .i64 v4 then some (c1∧(∀q,q < n1→xt_ (f1 q)=true)∧((∀x∈(ls zd_ n1 f1),x.ok))∧(fitE (ls zd_ n1 f1) (iOf v2) (iOf v3) (iOf v4)≠0),.tup [.sl 0 0 [] 0 0 0 (some 0),.int .i64 (fitE (ls zd_ n1 f1) (iOf v2) (iOf v3) (iOf v4))],r1,[])else none
  | _=>none
 | _=>none
theorem sRWhyB_ok:zm_ Try.prog 116 sRWhyB:=by
 refine⟨zg_ (by kernel_rfl),fun args h m c v rd wr hs hm hc w0 M β h' w R hrd hwr hst=>?_⟩
 unfold sRWhyB at hs
 split at hs
 ·rename_i v1 v2 v3 v4
  split at hs
  ·rename_i c1 n1 f1 r1 a1
   obtain⟨hb,hs⟩:=zn_ hs
   simp only[Option.some.injEq,Prod.mk.injEq]at hs
   obtain⟨rfl,rfl,rfl,rfl⟩:=hs
   simp only[Bool.and_eq_true]at hb
   obtain⟨⟨b2,b3⟩,b4⟩:=hb
   obtain⟨k1,g1,y1,y2⟩:=hc
   obtain⟨A1,p1,d1,e1,t1⟩:=zp_ R a1 k1 (fun i hi=>hrd i hi) (by omega)
   refine yb_ (views:=[⟨5,(ls zd_ n1 f1).length,prS (ls zd_ n1 f1),A1,p1⟩]) (rwhysB_lit (ls zd_ n1 f1) p1 (iOf v2) (iOf v3) (iOf v4) y1 y2) ?_ R hm hwr ?_ ?_ ?_
   ·exact d20_
   ·exact d39_
   ·exact k6_
   ·exact k6_
  ·cases hs
 ·cases hs
theorem rwhys_lit (xs:List Ins)(p1:Nat)(c p l:Int)(hx:∀x∈xs,x.ok)(hf:fitE xs c p l=0):zz_ Try.prog 116 [.sl 1 2 [] 5 0 xs.length (some p1),.agg [.int .i64 c,.int .i64 p,.int .i64 l]] [.gone,.gone,.ro (.arr xs.length 5 (prS xs))] (.tup [.sl 3 3 [] 1 0 xs.length none,.int .i64 0]) [.gone,.gone,.gone,.own 3 (.arr xs.length 1 (zw_ (whyL xs (zr_ xs) c p l xs.length))) false]:=by
 obtain⟨hc,hl⟩:=fitE_ok hf
 have hn:=(yr_ hc).2.1
 obtain⟨F,hF⟩:∃F,F=zr_ xs:=⟨_,rfl⟩
 rw[←hF]
 refine zf_ (fn:=Try.f116) 3 41 0 rfl rfl rfl rfl rfl u7_ rfl fun w0 M E hro=>?_
 repeat' (first|refine Ctl.h ?_ |((with_reducible intro hif);first |(focus (cases hif;done)) |((try simp only[JH]at hif);try exact hy_)) |((with_reducible first|apply J22 cRWy_ok za_|apply J23 fol cRWy_ok za_|apply J24);(·rfl);(· (simp only[push_cast,↓JP,Nat.reduceAdd,Nat.reduceEqDiff,Nat.reduceLT,Nat.reduceMul,Nat.reduceLeDiff,reduceCtorEq,reduceIte,↓JK,↓JF,cRWy,sRFactR,sRRt17,y9_,yt_,ys_,yu_,yl_,hl,←hF];rfl));(try kernel_rfl);try exact k134_)|fail)
 refine WF.nilFr (φ2:=[(0,.sl 1 2 [] 5 0 xs.length (some p1)),(3,.ptr 3 []),(6,.sl 4 4 [] 17 0 xs.length none),(8,.sl 5 5 [] 1 0 0 none),(9,.nat .i64 0)]) 3 1 (zw_ []) (fun _ q=>i64S_stable q) rfl ?_ ?_ ?_
 ·exact k131_
 ·simp[xe_,zb_,hp,HB.born]
 simp only[List.cons_append,List.nil_append]
 have hz:Less (.own 3 (.arr 0 1 (zw_ [])) false) (.own 3 (.arr 0 1 (zw_ (whyL xs F c p l 0))) false):=.same _
 refine WF.loopAt (fun (k:Nat)=>k≤xs.length) (fun (k:Nat)=>[(0,.sl 1 2 [] 5 0 xs.length (some p1)),(3,.ptr 3 []),(6,.sl 4 4 [] 17 0 xs.length none),(8,.sl 5 5 [] 1 0 k none),(9,.nat .i64 k)]) (fun (k:Nat)=>[.gone,.gone,.ro (.arr xs.length 5 (prS xs)),.own 153 (.agg [.int .i64 c,.int .i64 p,.int .i64 l]) true,.own 212 (.arr xs.length 17 (y0_ F)) false,.own 3 (.arr k 1 (zw_ (whyL xs F c p l k))) false]) (fun (k:Nat)=>xs.length - k) 0 (Nat.zero_le _) ?_ ?_ rfl ?_ ?_ rfl ?_
 ·exact k8_
 ·exact k5_
 ·exact k6_
 ·exact k6_
 intro k hk
 by_cases hkl:k < xs.length
 ·obtain⟨x,hX⟩:∃x,xs.getD k ⟨0,0,0,0,0⟩=x:=⟨_,rfl⟩
  have hR:=right_at hx hc hkl
  rw[hX]at hR
  have hok:=hR.ok
  have ha8:=hR.a
  have hb8:=hR.b
  have hc8:=hR.c
  have hW:whyK xs F c p l k=y5_ c p l x (zs_ F k):=by unfold whyK;rw[hX]
  have hs:=whyL_snoc xs F c p l k
  rw[hW]at hs
  have hsl:=(whyL_len xs F c p l (k+1)).symm
  repeat' (first|refine Ctl.h ?_ |((with_reducible intro hif);first |(focus (cases hif;done)) |((try simp only[JH]at hif);try exact hy_)) |((with_reducible first|apply J22 cRWy_ok za_|apply J23 fol cRWy_ok za_|apply J24);(·rfl);(· (simp only[push_cast,↓JP,Nat.reduceAdd,Nat.reduceEqDiff,Nat.reduceLT,Nat.reduceMul,Nat.reduceLeDiff,reduceCtorEq,reduceIte,↓JK,↓JF,cRWy,sRWhy17,y9_,yt_,ys_,yu_,yl_,y0_,hX,hkl,inN,inR,List.all_cons,List.all_nil];rfl));(try kernel_rfl);try exact xb_)|fail)
  refine At.nextPick [0,1,2,3,4,7] (k+1) ?_ rfl rfl rfl ?_ rfl ?_ ?_ ?_ rfl
  ·omega
  ·(repeat' (first|exact trivial|exact .inl rfl|exact .inr (.same _)|exact .inr .loose|exact .inr (.arr (by assumption))|apply And.intro |(exact .inr (less_catJ (whyL xs F c p l k) (y5_ c p l x (zs_ F k)) (whyL_len xs F c p l k) hs hsl rfl (fun β=>rfl)))))
  ·exact k6_
  ·exact k48_
  ·exact k6_
 ·obtain rfl:k=xs.length:=by omega
  repeat' (first|refine Ctl.h ?_ |((with_reducible intro hif);first |(focus (cases hif;done)) |((try simp only[JH]at hif);try exact hy_)) |((with_reducible first|apply J22 cRWy_ok za_|apply J23 fol cRWy_ok za_|apply J24);(·rfl);(· (simp only[push_cast,↓JP,Nat.reduceAdd,Nat.reduceEqDiff,Nat.reduceLT,Nat.reduceMul,Nat.reduceLeDiff,reduceCtorEq,reduceIte,↓JK,↓JF,cRWy,hkl,inN,inR];rfl));(try kernel_rfl);try exact xb_)|fail)
  apply At.endsPick [0,1,2,5] za_ (fn:=Try.f116) (rs:=[.tmp 4,.tmp 5]) Anc.refl hro (lb_ rfl) rfl
  ·exact k3_
  ·exact k39_
  ·rfl
  ·rfl
  ·rfl
  ·exact k53_
  ·rfl
  ·exact k6_
  ·exact k7_
  ·exact fun β=>rfl
  ·exact k6_
def sRWhyR:y4_:=fun args h m=>match args with
 | [v1,.agg [v2,v3,v4]]=>match srcV h 5 (.tup []) v1 with
  | some (c1,n1,f1,r1)=>bif isI .i64 v2 && isI .i64 v3 && isI .i64 v4 then some (c1∧(∀q,q < n1→xt_ (f1 q)=true)∧((∀x∈(ls zd_ n1 f1),x.ok))∧(fitE (ls zd_ n1 f1) (iOf v2) (iOf v3) (iOf v4)=0),.tup [.sl m m [] 1 0 (ls zd_ n1 f1).length none,.int .i64 0],r1,[(m,.own 3 (.arr (ls zd_ n1 f1).length 1 (zw_ (whyL (ls zd_ n1 f1) (zr_ (ls zd_ n1 f1)) (iOf v2) (iOf v3) (iOf v4) (ls zd_ n1 f1).length))) false)])else none
  | _=>none
 | _=>none
theorem sRWhyR_ok:zm_ Try.prog 116 sRWhyR:=by
 refine⟨zg_ (by kernel_rfl),fun args h m c v rd wr hs hm hc w0 M β h' w R hrd hwr hst=>?_⟩
 unfold sRWhyR at hs
 split at hs
 ·rename_i v1 v2 v3 v4
  split at hs
  ·rename_i c1 n1 f1 r1 a1
   obtain⟨hb,hs⟩:=zn_ hs
   simp only[Option.some.injEq,Prod.mk.injEq]at hs
   obtain⟨rfl,rfl,rfl,rfl⟩:=hs
   simp only[Bool.and_eq_true]at hb
   obtain⟨⟨b2,b3⟩,b4⟩:=hb
   obtain⟨k1,g1,y1,y2⟩:=hc
   obtain⟨A1,p1,d1,e1,t1⟩:=zp_ R a1 k1 (fun i hi=>hrd i hi) (by omega)
   refine yb_ (views:=[⟨5,(ls zd_ n1 f1).length,prS (ls zd_ n1 f1),A1,p1⟩]) (rwhys_lit (ls zd_ n1 f1) p1 (iOf v2) (iOf v3) (iOf v4) y1 y2) ?_ R hm hwr ?_ ?_ ?_
   ·exact d20_
   ·exact d39_
   ·exact k6_
   ·exact k6_
  ·cases hs
 ·cases hs
def cRDg:FuncId→Option y4_:=xz_ [(116,sRWhyR)]
theorem xw_:∀f S,cRDg f=some S→zm_ Try.prog f S:=z0_ ⟨sRWhyR_ok,trivial⟩
def cRDb:FuncId→Option y4_:=xz_ [(116,sRWhyB)]
theorem cRDb_ok:∀f S,cRDb f=some S→zm_ Try.prog f S:=z0_ ⟨sRWhyB_ok,trivial⟩
theorem rdoomB_lit (xs:List Ins)(p1:Nat)(c p l:Int)(hx:∀x∈xs,x.ok)(hf:fitE xs c p l≠0):zz_ Try.prog 78 [.sl 1 2 [] 5 0 xs.length (some p1),.agg [.int .i64 c,.int .i64 p,.int .i64 l]] [.gone,.gone,.ro (.arr xs.length 5 (prS xs))] (.tup [.sl 0 0 [] 0 0 0 (some 0),.int .i64 (fitE xs c p l)]) [.gone]:=by
 obtain⟨e,he⟩:∃e,fitE xs c p l=e:=⟨_,rfl⟩
 refine zf_ (fn:=Try.f78) 3 33 0 rfl rfl rfl rfl rfl u7_ rfl fun w0 M E hro=>?_
 repeat' (first|refine Ctl.h ?_ |((with_reducible intro hif);first |(focus (cases hif;done)) |((try simp only[JH]at hif);try exact hy_)) |((with_reducible first|apply J22 cRDb_ok za_|apply J23 fol cRDb_ok za_|apply J24);(·rfl);(· exact k135_);(try kernel_rfl);try exact k134_)|fail)
 refine WF.loopAt (fun (k:Nat)=>k=0) (fun (k:Nat)=>[(0,.sl 1 2 [] 5 0 xs.length (some p1)),(6,.sl 0 0 [] 0 0 0 (some 0)),(7,.int .i64 (fitE xs c p l)),(8,.sl 0 0 [] 0 0 0 (some 0)),(9,.nat .i64 0)]) (fun (k:Nat)=>[.gone,.gone,.ro (.arr xs.length 5 (prS xs)),.gone]) (fun (k:Nat)=>0) 0 rfl ?_ ?_ rfl ?_ ?_ rfl ?_
 ·exact k8_
 ·exact k5_
 ·exact k6_
 ·exact k6_
 intro k hk
 repeat' (first|refine Ctl.h ?_ |((with_reducible intro hif);first |(focus (cases hif;done)) |((try simp only[JH]at hif);try exact hy_)) |((with_reducible first|apply J22 cRDb_ok za_|apply J23 fol cRDb_ok za_|apply J24);(·rfl);(· (simp only[push_cast,↓JP,Nat.reduceAdd,Nat.reduceEqDiff,Nat.reduceLT,Nat.reduceMul,Nat.reduceLeDiff,reduceCtorEq,reduceIte,↓JK,↓JF,cRDb,inN,inR];rfl));(try kernel_rfl);try exact xb_)|fail)
 apply At.endsRet za_ (fn:=Try.f78) (rs:=[.tmp 4,.tmp 5]) Anc.refl hro (lb_ rfl) rfl
 ·exact k3_
 ·exact k4_
 ·exact k5_
 ·rfl
 ·exact k6_
 ·exact k7_
 ·exact fun β=>rfl
 ·exact k6_
def sRDoomB:y4_:=fun args h m=>match args with
 | [v1,.agg [v2,v3,v4]]=>match srcV h 5 (.tup []) v1 with
  | some (c1,n1,f1,r1)=>bif isI .i64 v2 && isI .i64 v3 && isI .i64 v4 then some (c1∧(∀q,q < n1→xt_ (f1 q)=true)∧((∀x∈(ls zd_ n1 f1),x.ok))∧(fitE (ls zd_ n1 f1) (iOf v2) (iOf v3) (iOf v4)≠0),.tup [.sl 0 0 [] 0 0 0 (some 0),.int .i64 (fitE (ls zd_ n1 f1) (iOf v2) (iOf v3) (iOf v4))],r1,[])else none
  | _=>none
 | _=>none
theorem sRDoomB_ok:zm_ Try.prog 78 sRDoomB:=by
 refine⟨zg_ (by kernel_rfl),fun args h m c v rd wr hs hm hc w0 M β h' w R hrd hwr hst=>?_⟩
 unfold sRDoomB at hs
 split at hs
 ·rename_i v1 v2 v3 v4
  split at hs
  ·rename_i c1 n1 f1 r1 a1
   obtain⟨hb,hs⟩:=zn_ hs
   simp only[Option.some.injEq,Prod.mk.injEq]at hs
   obtain⟨rfl,rfl,rfl,rfl⟩:=hs
   simp only[Bool.and_eq_true]at hb
   obtain⟨⟨b2,b3⟩,b4⟩:=hb
   obtain⟨k1,g1,y1,y2⟩:=hc
   obtain⟨A1,p1,d1,e1,t1⟩:=zp_ R a1 k1 (fun i hi=>hrd i hi) (by omega)
   refine yb_ (views:=[⟨5,(ls zd_ n1 f1).length,prS (ls zd_ n1 f1),A1,p1⟩]) (rdoomB_lit (ls zd_ n1 f1) p1 (iOf v2) (iOf v3) (iOf v4) y1 y2) ?_ R hm hwr ?_ ?_ ?_
   ·exact d20_
   ·exact d39_
   ·exact k6_
   ·exact k6_
  ·cases hs
 ·cases hs
theorem rchkB_lit (xs:List Ins)(p1:Nat)(c p l:Int)(hx:∀x∈xs,x.ok)(hf:fitE xs c p l≠0):zz_ Try.prog 80 [.sl 1 2 [] 5 0 xs.length (some p1),.agg [.int .i64 c,.int .i64 p,.int .i64 l]] [.gone,.gone,.ro (.arr xs.length 5 (prS xs))] (.tup [.int .i64 (-1),.int .i64 (fitE xs c p l)]) [.gone]:=by
 refine zf_ (fn:=Try.f80) 3 41 0 rfl rfl rfl rfl rfl u7_ rfl fun w0 M E hro=>?_
 repeat' (first|refine Ctl.h ?_ |((with_reducible intro hif);first |(focus (cases hif;done)) |((try simp only[JH]at hif);try exact hy_)) |((with_reducible first|apply J22 cRDb_ok za_|apply J23 fol cRDb_ok za_|apply J24);(·rfl);(· exact k135_);(try kernel_rfl);try exact k134_)|fail)
 apply At.endsRet za_ (fn:=Try.f80) (rs:=[.tmp 4,.tmp 5]) Anc.refl hro (lb_ rfl) rfl
 ·exact k3_
 ·exact k4_
 ·exact k5_
 ·rfl
 ·exact k6_
 ·exact k7_
 ·exact fun β=>rfl
 ·exact k6_
def sRChkB:y4_:=fun args h m=>match args with
 | [v1,.agg [v2,v3,v4]]=>match srcV h 5 (.tup []) v1 with
  | some (c1,n1,f1,r1)=>bif isI .i64 v2 && isI .i64 v3 && isI .i64 v4 then some (c1∧(∀q,q < n1→xt_ (f1 q)=true)∧((∀x∈(ls zd_ n1 f1),x.ok))∧(fitE (ls zd_ n1 f1) (iOf v2) (iOf v3) (iOf v4)≠0),.tup [.int .i64 (-1),.int .i64 (fitE (ls zd_ n1 f1) (iOf v2) (iOf v3) (iOf v4))],r1,[])else none
  | _=>none
 | _=>none
theorem sRChkB_ok:zm_ Try.prog 80 sRChkB:=by
 refine⟨zg_ (by kernel_rfl),fun args h m c v rd wr hs hm hc w0 M β h' w R hrd hwr hst=>?_⟩
 unfold sRChkB at hs
 split at hs
 ·rename_i v1 v2 v3 v4
  split at hs
  ·rename_i c1 n1 f1 r1 a1
   obtain⟨hb,hs⟩:=zn_ hs
   simp only[Option.some.injEq,Prod.mk.injEq]at hs
   obtain⟨rfl,rfl,rfl,rfl⟩:=hs
   simp only[Bool.and_eq_true]at hb
   obtain⟨⟨b2,b3⟩,b4⟩:=hb
   obtain⟨k1,g1,y1,y2⟩:=hc
   obtain⟨A1,p1,d1,e1,t1⟩:=zp_ R a1 k1 (fun i hi=>hrd i hi) (by omega)
   refine yb_ (views:=[⟨5,(ls zd_ n1 f1).length,prS (ls zd_ n1 f1),A1,p1⟩]) (rchkB_lit (ls zd_ n1 f1) p1 (iOf v2) (iOf v3) (iOf v4) y1 y2) ?_ R hm hwr ?_ ?_ ?_
   ·exact d20_
   ·exact d39_
   ·exact k6_
   ·exact k6_
  ·cases hs
 ·cases hs
theorem rwyB_lit (xs:List Ins)(p1:Nat)(c p l i:Int)(hx:∀x∈xs,x.ok)(hf:fitE xs c p l≠0):zz_ Try.prog 79 [.sl 1 2 [] 5 0 xs.length (some p1),.agg [.int .i64 c,.int .i64 p,.int .i64 l],.int .i64 i] [.gone,.gone,.ro (.arr xs.length 5 (prS xs))] (.tup [.int .i64 (whyR xs c p l i).1,.int .i64 (whyR xs c p l i).2]) [.gone]:=by
 have e:whyR xs c p l i=(0,fitE xs c p l):=by unfold whyR;rw[if_pos hf]
 rw[e]
 refine zf_ (fn:=Try.f79) 3 31 0 rfl rfl rfl rfl rfl u7_ rfl fun w0 M E hro=>?_
 repeat' (first|refine Ctl.h ?_ |((with_reducible intro hif);first |(focus (cases hif;done)) |((try simp only[JH]at hif);try exact hy_)) |((with_reducible first|apply J22 cRDb_ok za_|apply J23 fol cRDb_ok za_|apply J24);(·rfl);(· exact k135_);(try kernel_rfl);try exact k134_)|fail)
 apply At.endsRet za_ (fn:=Try.f79) (rs:=[.tmp 6,.tmp 7]) Anc.refl hro (lb_ rfl) rfl
 ·exact k3_
 ·exact k4_
 ·exact k5_
 ·rfl
 ·exact k6_
 ·exact k7_
 ·exact fun β=>rfl
 ·exact k6_
theorem rwyR_lit (xs:List Ins)(p1:Nat)(c p l i:Int)(hx:∀x∈xs,x.ok)(hf:fitE xs c p l=0):zz_ Try.prog 79 [.sl 1 2 [] 5 0 xs.length (some p1),.agg [.int .i64 c,.int .i64 p,.int .i64 l],.int .i64 i] [.gone,.gone,.ro (.arr xs.length 5 (prS xs))] (.tup [.int .i64 (whyR xs c p l i).1,.int .i64 (whyR xs c p l i).2]) [.gone]:=by
 have hn:=(yr_ (fitE_ok hf).1).2.1
 by_cases h1:i < 0
 ·have e:whyR xs c p l i=(0,2):=by unfold whyR;rw[if_neg (fun h=>h hf),if_pos (.inl h1)]
  rw[e]
  refine zf_ (fn:=Try.f79) 3 31 0 rfl rfl rfl rfl rfl u7_ rfl fun w0 M E hro=>?_
  repeat' (first|refine Ctl.h ?_ |((with_reducible intro hif);first |(focus (cases hif;done)) |((try simp only[JH]at hif);try exact hy_)) |((with_reducible first|apply J22 xw_ za_|apply J23 fol xw_ za_|apply J24);(·rfl);(· (simp only[push_cast,↓JP,Nat.reduceAdd,Nat.reduceEqDiff,Nat.reduceLT,Nat.reduceMul,Nat.reduceLeDiff,reduceCtorEq,reduceIte,↓JK,↓JF,cRDg,sRWhyR,y9_,yt_,ys_,yu_,yl_,h1,inN,inR];rfl));(try kernel_rfl);try exact xb_)|fail)
  apply At.endsRet za_ (fn:=Try.f79) (rs:=[.tmp 6,.tmp 7]) Anc.refl hro (lb_ rfl) rfl
  ·exact k3_
  ·exact k4_
  ·exact k5_
  ·rfl
  ·exact k6_
  ·exact k7_
  ·exact fun β=>rfl
  ·exact k6_
 by_cases h2:(xs.length:Int)≤i
 ·have e:whyR xs c p l i=(0,2):=by unfold whyR;rw[if_neg (fun h=>h hf),if_pos (.inr h2)]
  rw[e]
  refine zf_ (fn:=Try.f79) 3 31 0 rfl rfl rfl rfl rfl u7_ rfl fun w0 M E hro=>?_
  repeat' (first|refine Ctl.h ?_ |((with_reducible intro hif);first |(focus (cases hif;done)) |((try simp only[JH]at hif);try exact hy_)) |((with_reducible first|apply J22 xw_ za_|apply J23 fol xw_ za_|apply J24);(·rfl);(· (simp only[push_cast,↓JP,Nat.reduceAdd,Nat.reduceEqDiff,Nat.reduceLT,Nat.reduceMul,Nat.reduceLeDiff,reduceCtorEq,reduceIte,↓JK,↓JF,cRDg,sRWhyR,y9_,yt_,ys_,yu_,yl_,h1,h2,inN,inR];rfl));(try kernel_rfl);try exact xb_)|fail)
  apply At.endsRet za_ (fn:=Try.f79) (rs:=[.tmp 6,.tmp 7]) Anc.refl hro (lb_ rfl) rfl
  ·exact k3_
  ·exact k4_
  ·exact k5_
  ·rfl
  ·exact k6_
  ·exact k7_
  ·exact fun β=>rfl
  ·exact k6_
 have e:whyR xs c p l i=((whyL xs (zr_ xs) c p l xs.length).getD i.toNat 0,0):=by
  unfold whyR;rw[if_neg (fun h=>h hf),if_neg (by omega),whyL_at _ _ _ _ _ (by omega)];rfl
 rw[e]
 have hit:i.toNat < xs.length:=by omega
 refine zf_ (fn:=Try.f79) 3 31 0 rfl rfl rfl rfl rfl u7_ rfl fun w0 M E hro=>?_
 repeat' (first|refine Ctl.h ?_ |((with_reducible intro hif);first |(focus (cases hif;done)) |((try simp only[JH]at hif);try exact hy_)) |((with_reducible first|apply J22 xw_ za_|apply J23 fol xw_ za_|apply J24);(·rfl);(· (simp only[push_cast,↓JP,Nat.reduceAdd,Nat.reduceEqDiff,Nat.reduceLT,Nat.reduceMul,Nat.reduceLeDiff,reduceCtorEq,reduceIte,↓JK,↓JF,cRDg,sRWhyR,y9_,yt_,ys_,yu_,yl_,zw_,h1,h2,inN,inR];rfl));(try kernel_rfl);try exact xb_)|fail)
 apply At.endsRet za_ (fn:=Try.f79) (rs:=[.tmp 6,.tmp 7]) Anc.refl hro (lb_ rfl) rfl
 ·exact k3_
 ·exact k4_
 ·exact k5_
 ·rfl
 ·exact k6_
 ·exact k7_
 ·exact fun β=>rfl
 ·exact k6_
theorem rwy_lit (xs:List Ins)(p1:Nat)(c p l i:Int)(hx:∀x∈xs,x.ok):zz_ Try.prog 79 [.sl 1 2 [] 5 0 xs.length (some p1),.agg [.int .i64 c,.int .i64 p,.int .i64 l],.int .i64 i] [.gone,.gone,.ro (.arr xs.length 5 (prS xs))] (.tup [.int .i64 (whyR xs c p l i).1,.int .i64 (whyR xs c p l i).2]) [.gone]:=by
 by_cases hf:fitE xs c p l=0
 ·exact rwyR_lit xs p1 c p l i hx hf
 ·exact rwyB_lit xs p1 c p l i hx hf
def sRWy:y4_:=fun args h m=>match args with
 | [v1,.agg [v2,v3,v4],v5]=>match srcV h 5 (.tup []) v1 with
  | some (c1,n1,f1,r1)=>bif isI .i64 v2 && isI .i64 v3 && isI .i64 v4 && isI .i64 v5 then some (c1∧(∀q,q < n1→xt_ (f1 q)=true)∧((∀x∈(ls zd_ n1 f1),x.ok)),.tup [.int .i64 (whyR (ls zd_ n1 f1) (iOf v2) (iOf v3) (iOf v4) (iOf v5)).1,.int .i64 (whyR (ls zd_ n1 f1) (iOf v2) (iOf v3) (iOf v4) (iOf v5)).2],r1,[])else none
  | _=>none
 | _=>none
theorem sRWy_ok:zm_ Try.prog 79 sRWy:=by
 refine⟨zg_ (by kernel_rfl),fun args h m c v rd wr hs hm hc w0 M β h' w R hrd hwr hst=>?_⟩
 unfold sRWy at hs
 split at hs
 ·rename_i v1 v2 v3 v4 v5
  split at hs
  ·rename_i c1 n1 f1 r1 a1
   obtain⟨hb,hs⟩:=zn_ hs
   simp only[Option.some.injEq,Prod.mk.injEq]at hs
   obtain⟨rfl,rfl,rfl,rfl⟩:=hs
   simp only[Bool.and_eq_true]at hb
   obtain⟨⟨⟨b2,b3⟩,b4⟩,b5⟩:=hb
   obtain⟨k1,g1,y1⟩:=hc
   obtain⟨A1,p1,d1,e1,t1⟩:=zp_ R a1 k1 (fun i hi=>hrd i hi) (by omega)
   refine yb_ (views:=[⟨5,(ls zd_ n1 f1).length,prS (ls zd_ n1 f1),A1,p1⟩]) (rwy_lit (ls zd_ n1 f1) p1 (iOf v2) (iOf v3) (iOf v4) (iOf v5) y1) ?_ R hm hwr ?_ ?_ ?_
   ·exact d20_
   ·exact d38_
   ·exact k6_
   ·exact k6_
  ·cases hs
 ·cases hs
theorem rchk_lit (xs:List Ins)(p1:Nat)(c p l:Int)(hx:∀x∈xs,x.ok)(hf:fitE xs c p l=0):zz_ Try.prog 80 [.sl 1 2 [] 5 0 xs.length (some p1),.agg [.int .i64 c,.int .i64 p,.int .i64 l]] [.gone,.gone,.ro (.arr xs.length 5 (prS xs))] (.tup [.int .i64 (chkR xs (zr_ xs) c p l).1,.int .i64 (chkR xs (zr_ xs) c p l).2]) [.gone]:=by
 have hn:=(yr_ (fitE_ok hf).1).2.1
 obtain⟨F,hF⟩:∃F,F=zr_ xs:=⟨_,rfl⟩
 rw[←hF]
 refine zf_ (fn:=Try.f80) 3 41 0 rfl rfl rfl rfl rfl u7_ rfl fun w0 M E hro=>?_
 repeat' (first|refine Ctl.h ?_ |((with_reducible intro hif);first |(focus (cases hif;done)) |((try simp only[JH]at hif);try exact hy_)) |((with_reducible first|apply J22 xw_ za_|apply J23 fol xw_ za_|apply J24);(·rfl);(· exact k136_);(try kernel_rfl);try exact k134_)|fail)
 refine WF.loopAt (fun (k:Nat)=>k≤xs.length∧∀j,j < k→badB xs F c p l j=false) (fun (k:Nat)=>[(0,.sl 1 2 [] 5 0 xs.length (some p1)),(6,.sl 4 4 [] 1 0 xs.length none),(8,.nat .i64 k)]) (fun (k:Nat)=>[.gone,.gone,.ro (.arr xs.length 5 (prS xs)),.gone,.own 3 (.arr xs.length 1 (zw_ (whyL xs F c p l xs.length))) false]) (fun (k:Nat)=>xs.length - k) 0 ⟨Nat.zero_le _,fun j hj=>absurd hj (Nat.not_lt_zero j)⟩ ?_ ?_ rfl ?_ ?_ rfl ?_
 ·exact k8_
 ·exact k5_
 ·exact k6_
 ·exact k6_
 rintro k ⟨hk,hno⟩
 by_cases hkl:k < xs.length
 ·have hat:=whyL_at xs F c p l hkl
  have nxt:badB xs F c p l k=false→∀j,j < k+1→badB xs F c p l j=false:=fun h j hj=>by
   by_cases q:j=k
   ·rw[q];exact h
   ·exact hno j (by omega)
  obtain⟨e,he⟩:∃e,whyK xs F c p l k=e:=⟨_,rfl⟩
  rw[he]at hat
  by_cases h0:e=0
  ·have hb:=nxt (by unfold badB;rw[he,h0];rfl)
   repeat' (first|refine Ctl.h ?_ |((with_reducible intro hif);first |(focus (cases hif;done)) |((try simp only[JH]at hif);try exact hy_)) |((with_reducible first|apply J22 xw_ za_|apply J23 fol xw_ za_|apply J24);(·rfl);(· exact k137_);(try kernel_rfl);try exact xb_)|fail)
   refine At.next (k+1) ?_ ?_ ?_ rfl ?_ ?_ rfl
   ·exact⟨⟨hkl,hb⟩,by omega⟩
   ·exact k8_
   ·exact k5_
   ·exact k6_
   ·exact k6_
  ·by_cases h6:e=176
   ·have hb:=nxt (by unfold badB;rw[he,h6];rfl)
    have h176:¬((176:Int)=0):=by decide
    repeat' (first|refine Ctl.h ?_ |((with_reducible intro hif);first |(focus (cases hif;done)) |((try simp only[JH]at hif);try exact hy_)) |((with_reducible first|apply J22 xw_ za_|apply J23 fol xw_ za_|apply J24);(·rfl);(· (simp only[push_cast,↓JP,Nat.reduceAdd,Nat.reduceEqDiff,Nat.reduceLT,Nat.reduceMul,Nat.reduceLeDiff,reduceCtorEq,reduceIte,↓JK,↓JF,cRDg,zw_,hat,hkl,h6,h176,inN,inR];rfl));(try kernel_rfl);try exact xb_)|fail)
    refine At.next (k+1) ?_ ?_ ?_ rfl ?_ ?_ rfl
    ·exact⟨⟨hkl,hb⟩,by omega⟩
    ·exact k8_
    ·exact k5_
    ·exact k6_
    ·exact k6_
   ·have hb:chkR xs F c p l=((k:Int),e):=by rw[chkR_some hkl (by unfold badB;rw[he];simp[h0,h6]) hno,he]
    rw[hb]
    repeat' (first|refine Ctl.h ?_ |((with_reducible intro hif);first |(focus (cases hif;done)) |((try simp only[JH]at hif);try exact hy_)) |((with_reducible first|apply J22 xw_ za_|apply J23 fol xw_ za_|apply J24);(·rfl);(· (simp only[push_cast,↓JP,Nat.reduceAdd,Nat.reduceEqDiff,Nat.reduceLT,Nat.reduceMul,Nat.reduceLeDiff,reduceCtorEq,reduceIte,↓JK,↓JF,cRDg,zw_,hat,hkl,h0,h6,inN,inR];rfl));(try kernel_rfl);try exact xb_)|fail)
    apply At.endsRet za_ (fn:=Try.f80) (rs:=[.tmp 4,.tmp 5]) Anc.refl hro (lb_ rfl) rfl
    ·exact k3_
    ·exact k4_
    ·exact k5_
    ·rfl
    ·exact k6_
    ·exact k7_
    ·exact fun β=>rfl
    ·exact k6_
 ·obtain rfl:k=xs.length:=by omega
  rw[chkR_none hno]
  repeat' (first|refine Ctl.h ?_ |((with_reducible intro hif);first |(focus (cases hif;done)) |((try simp only[JH]at hif);try exact hy_)) |((with_reducible first|apply J22 xw_ za_|apply J23 fol xw_ za_|apply J24);(·rfl);(· exact k138_);(try kernel_rfl);try exact xb_)|fail)
  apply At.endsRet za_ (fn:=Try.f80) (rs:=[.tmp 4,.tmp 5]) Anc.refl hro (lb_ rfl) rfl
  ·exact k3_
  ·exact k4_
  ·exact k5_
  ·rfl
  ·exact k6_
  ·exact k7_
  ·exact fun β=>rfl
  ·exact k6_
def sRChk:y4_:=fun args h m=>match args with
 | [v1,.agg [v2,v3,v4]]=>match srcV h 5 (.tup []) v1 with
  | some (c1,n1,f1,r1)=>bif isI .i64 v2 && isI .i64 v3 && isI .i64 v4 then some (c1∧(∀q,q < n1→xt_ (f1 q)=true)∧((∀x∈(ls zd_ n1 f1),x.ok))∧(fitE (ls zd_ n1 f1) (iOf v2) (iOf v3) (iOf v4)=0),.tup [.int .i64 (chkR (ls zd_ n1 f1) (zr_ (ls zd_ n1 f1)) (iOf v2) (iOf v3) (iOf v4)).1,.int .i64 (chkR (ls zd_ n1 f1) (zr_ (ls zd_ n1 f1)) (iOf v2) (iOf v3) (iOf v4)).2],r1,[])else none
  | _=>none
 | _=>none
theorem sRChk_ok:zm_ Try.prog 80 sRChk:=by
 refine⟨zg_ (by kernel_rfl),fun args h m c v rd wr hs hm hc w0 M β h' w R hrd hwr hst=>?_⟩
 unfold sRChk at hs
 split at hs
 ·rename_i v1 v2 v3 v4
  split at hs
  ·rename_i c1 n1 f1 r1 a1
   obtain⟨hb,hs⟩:=zn_ hs
   simp only[Option.some.injEq,Prod.mk.injEq]at hs
   obtain⟨rfl,rfl,rfl,rfl⟩:=hs
   simp only[Bool.and_eq_true]at hb
   obtain⟨⟨b2,b3⟩,b4⟩:=hb
   obtain⟨k1,g1,y1,y2⟩:=hc
   obtain⟨A1,p1,d1,e1,t1⟩:=zp_ R a1 k1 (fun i hi=>hrd i hi) (by omega)
   refine yb_ (views:=[⟨5,(ls zd_ n1 f1).length,prS (ls zd_ n1 f1),A1,p1⟩]) (rchk_lit (ls zd_ n1 f1) p1 (iOf v2) (iOf v3) (iOf v4) y1 y2) ?_ R hm hwr ?_ ?_ ?_
   ·exact d20_
   ·exact d39_
   ·exact k6_
   ·exact k6_
  ·cases hs
 ·cases hs
theorem rdoom_lit (xs:List Ins)(p1:Nat)(c p l:Int)(hx:∀x∈xs,x.ok)(hf:fitE xs c p l=0):zz_ Try.prog 78 [.sl 1 2 [] 5 0 xs.length (some p1),.agg [.int .i64 c,.int .i64 p,.int .i64 l]] [.gone,.gone,.ro (.arr xs.length 5 (prS xs))]
  (.tup [.sl 3 3 [] 1 0 (yw_ xs (zr_ xs) c p l xs.length).length none,.int .i64 0]) [.gone,.gone,.gone,.own 3 (.arr (yw_ xs (zr_ xs) c p l xs.length).length 1 (zw_ (yw_ xs (zr_ xs) c p l xs.length))) false]:=by
 have hn:=(yr_ (fitE_ok hf).1).2.1
 obtain⟨F,hF⟩:∃F,F=zr_ xs:=⟨_,rfl⟩
 rw[←hF]
 refine zf_ (fn:=Try.f78) 3 33 0 rfl rfl rfl rfl rfl u7_ rfl fun w0 M E hro=>?_
 repeat' (first|refine Ctl.h ?_ |((with_reducible intro hif);first |(focus (cases hif;done)) |((try simp only[JH]at hif);try exact hy_)) |((with_reducible first|apply J22 xw_ za_|apply J23 fol xw_ za_|apply J24);(·rfl);(· exact k136_);(try kernel_rfl);try exact k134_)|fail)
 refine WF.nilFr (φ2:=[(0,.sl 1 2 [] 5 0 xs.length (some p1)),(6,.sl 4 4 [] 1 0 xs.length none),(7,.int .i64 0),(8,.sl 5 5 [] 1 0 0 none),(9,.nat .i64 0)]) 3 1 (zw_ []) (fun _ q=>i64S_stable q) rfl ?_ ?_ ?_
 ·exact k131_
 ·simp[xe_,zb_,hp,HB.born]
 simp only[List.cons_append,List.nil_append]
 have hz:Less (.own 3 (.arr 0 1 (zw_ [])) false) (.own 3 (.arr (yw_ xs F c p l 0).length 1 (zw_ (yw_ xs F c p l 0))) false):=.same _
 refine WF.loopAt (fun (k:Nat)=>k≤xs.length) (fun (k:Nat)=>[(0,.sl 1 2 [] 5 0 xs.length (some p1)),(6,.sl 4 4 [] 1 0 xs.length none),(7,.int .i64 0),(8,.sl 5 5 [] 1 0 (yw_ xs F c p l k).length none),(9,.nat .i64 k)]) (fun (k:Nat)=>[.gone,.gone,.ro (.arr xs.length 5 (prS xs)),.gone,.own 3 (.arr xs.length 1 (zw_ (whyL xs F c p l xs.length))) false,.own 3 (.arr (yw_ xs F c p l k).length 1 (zw_ (yw_ xs F c p l k))) false]) (fun (k:Nat)=>xs.length - k) 0 (Nat.zero_le _) ?_ ?_ rfl ?_ ?_ rfl ?_
 ·exact k8_
 ·exact k5_
 ·exact k6_
 ·exact k6_
 intro k hk
 have hdl:=doom_len xs F c p l k
 by_cases hkl:k < xs.length
 ·have hat:=whyL_at xs F c p l hkl
  have hS:yw_ xs F c p l (k+1)=yw_ xs F c p l k++(if whyK xs F c p l k≠0 then [(k:Int)] else []):=rfl
  obtain⟨e,he⟩:∃e,whyK xs F c p l k=e:=⟨_,rfl⟩
  obtain⟨Dk,hD⟩:∃Dk,yw_ xs F c p l k=Dk:=⟨_,rfl⟩
  obtain⟨D2,hD2⟩:∃Dk,yw_ xs F c p l (k+1)=Dk:=⟨_,rfl⟩
  rw[he]at hat
  rw[he,hD,hD2]at hS
  rw[hD]at hdl ⊢
  by_cases h0:e=0
  ·have hS:D2=Dk:=by rw[hS,if_neg (fun h=>h h0),List.append_nil]
   repeat' (first|refine Ctl.h ?_ |((with_reducible intro hif);first |(focus (cases hif;done)) |((try simp only[JH]at hif);try exact hy_)) |((with_reducible first|apply J22 xw_ za_|apply J23 fol xw_ za_|apply J24);(·rfl);(· exact k137_);(try kernel_rfl);try exact xb_)|fail)
   refine At.nextPick [0,1,2,3,4,5] (k+1) ?_ rfl rfl rfl ?_ rfl ?_ ?_ ?_ rfl
   ·omega
   ·(repeat' (first|exact trivial|exact .inl rfl|exact .inr (.same _)|exact .inr .loose|exact .inr (.arr (by assumption))|apply And.intro |(rw[hD2,hS];exact .inr (.same _))))
   ·exact k6_
   ·(repeat' (first|exact trivial|exact⟨_,rfl,fun β=>rfl⟩|apply And.intro |(exact⟨_,rfl,fun β=>by rw[hD2,hS];first|done|rfl⟩)))
   ·exact k6_
  ·have hS:Dk++[(k:Int)]=D2:=by rw[hS,if_pos h0]
   have hDl:Dk.length+1=D2.length:=by rw[←hS];simp
   repeat' (first|refine Ctl.h ?_ |((with_reducible intro hif);first |(focus (cases hif;done)) |((try simp only[JH]at hif);try exact hy_)) |((with_reducible first|apply J22 xw_ za_|apply J23 fol xw_ za_|apply J24);(·rfl);(· (simp only[push_cast,↓JP,Nat.reduceAdd,Nat.reduceEqDiff,Nat.reduceLT,Nat.reduceMul,Nat.reduceLeDiff,reduceCtorEq,reduceIte,↓JK,↓JF,cRDg,zw_,hat,hkl,h0,inN,inR,List.all_cons,List.all_nil];rfl));(try kernel_rfl);try exact xb_)|fail)
   refine At.nextPick [0,1,2,3,4,7] (k+1) ?_ rfl rfl rfl ?_ rfl ?_ ?_ ?_ rfl
   ·omega
   ·(repeat' (first|exact trivial|exact .inl rfl|exact .inr (.same _)|exact .inr .loose|exact .inr (.arr (by assumption))|apply And.intro |(rw[hD2,←hDl];exact .inr (less_catJ Dk k rfl hS hDl rfl (fun β=>rfl)))))
   ·exact k6_
   ·(repeat' (first|exact trivial|exact⟨_,rfl,fun β=>rfl⟩|apply And.intro |(exact⟨_,rfl,fun β=>by rw[hD2,←hDl];first|done|rfl⟩)))
   ·exact k6_
 ·obtain rfl:k=xs.length:=by omega
  repeat' (first|refine Ctl.h ?_ |((with_reducible intro hif);first |(focus (cases hif;done)) |((try simp only[JH]at hif);try exact hy_)) |((with_reducible first|apply J22 xw_ za_|apply J23 fol xw_ za_|apply J24);(·rfl);(· exact k138_);(try kernel_rfl);try exact xb_)|fail)
  apply At.endsPick [0,1,2,5] za_ (fn:=Try.f78) (rs:=[.tmp 4,.tmp 5]) Anc.refl hro (lb_ rfl) rfl
  ·exact k3_
  ·exact k39_
  ·rfl
  ·rfl
  ·rfl
  ·exact k53_
  ·rfl
  ·exact k6_
  ·exact k7_
  ·exact fun β=>rfl
  ·exact k6_
def sRDoom:y4_:=fun args h m=>match args with
 | [v1,.agg [v2,v3,v4]]=>match srcV h 5 (.tup []) v1 with
  | some (c1,n1,f1,r1)=>bif isI .i64 v2 && isI .i64 v3 && isI .i64 v4 then some (c1∧(∀q,q < n1→xt_ (f1 q)=true)∧((∀x∈(ls zd_ n1 f1),x.ok))∧(fitE (ls zd_ n1 f1) (iOf v2) (iOf v3) (iOf v4)=0),.tup [.sl m m [] 1 0 (yw_ (ls zd_ n1 f1) (zr_ (ls zd_ n1 f1)) (iOf v2) (iOf v3) (iOf v4) (ls zd_ n1 f1).length).length none,.int .i64 0],r1,[(m,.own 3 (.arr (yw_ (ls zd_ n1 f1) (zr_ (ls zd_ n1 f1)) (iOf v2) (iOf v3) (iOf v4) (ls zd_ n1 f1).length).length 1 (zw_ (yw_ (ls zd_ n1 f1) (zr_ (ls zd_ n1 f1)) (iOf v2) (iOf v3) (iOf v4) (ls zd_ n1 f1).length))) false)])else none
  | _=>none
 | _=>none
theorem sRDoom_ok:zm_ Try.prog 78 sRDoom:=by
 refine⟨zg_ (by kernel_rfl),fun args h m c v rd wr hs hm hc w0 M β h' w R hrd hwr hst=>?_⟩
 unfold sRDoom at hs
 split at hs
 ·rename_i v1 v2 v3 v4
  split at hs
  ·rename_i c1 n1 f1 r1 a1
   obtain⟨hb,hs⟩:=zn_ hs
   simp only[Option.some.injEq,Prod.mk.injEq]at hs
   obtain⟨rfl,rfl,rfl,rfl⟩:=hs
   simp only[Bool.and_eq_true]at hb
   obtain⟨⟨b2,b3⟩,b4⟩:=hb
   obtain⟨k1,g1,y1,y2⟩:=hc
   obtain⟨A1,p1,d1,e1,t1⟩:=zp_ R a1 k1 (fun i hi=>hrd i hi) (by omega)
   refine yb_ (views:=[⟨5,(ls zd_ n1 f1).length,prS (ls zd_ n1 f1),A1,p1⟩]) (rdoom_lit (ls zd_ n1 f1) p1 (iOf v2) (iOf v3) (iOf v4) y1 y2) ?_ R hm hwr ?_ ?_ ?_
   ·exact d20_
   ·exact d39_
   ·exact k6_
   ·exact k6_
  ·cases hs
 ·cases hs
def cRLb:FuncId→Option y4_:=xz_ [(77,sRFactB)]
theorem cRLb_ok:∀f S,cRLb f=some S→zm_ Try.prog f S:=z0_ ⟨sRFactB_ok,trivial⟩
theorem rleastB_lit (xs:List Ins)(p1:Nat)(hx:∀x∈xs,x.ok)(hc:(zu_ xs).2≠0):zz_ Try.prog 81 [.sl 1 2 [] 5 0 xs.length (some p1)] [.gone,.gone,.ro (.arr xs.length 5 (prS xs))] (.tup [.agg [.int .i64 0,.int .i64 0,.int .i64 0],.int .i64 170]) [.gone]:=by
 have h170:¬((170:Int)=0):=by decide
 refine zf_ (fn:=Try.f81) 3 102 0 rfl rfl rfl rfl rfl u7_ rfl fun w0 M E hro=>?_
 repeat' (first|refine Ctl.h ?_ |((with_reducible intro hif);first |(focus (cases hif;done)) |((try simp only[JH]at hif);try exact hy_)) |((with_reducible first|apply J22 cRLb_ok za_|apply J23 fol cRLb_ok za_|apply J24);(·rfl);(· (simp only[push_cast,↓JP,Nat.reduceAdd,Nat.reduceEqDiff,Nat.reduceLT,Nat.reduceMul,Nat.reduceLeDiff,reduceCtorEq,reduceIte,↓JK,↓JF,cRLb,sRFactB,y9_,yt_,ys_,yu_,yl_,h170];rfl));(try kernel_rfl);try exact k133_)|fail)
 apply At.endsRet za_ (fn:=Try.f81) (rs:=[.cell 2 153,.tmp 3]) Anc.refl hro (lb_ rfl) rfl
 ·exact k3_
 ·exact k4_
 ·exact k5_
 ·rfl
 ·exact k6_
 ·exact k7_
 ·exact fun β=>rfl
 ·exact k6_
def sRLeastB:y4_:=fun args h m=>match args with
 | [v1]=>match srcV h 5 (.tup []) v1 with
  | some (c1,n1,f1,r1)=>some (c1∧(∀q,q < n1→xt_ (f1 q)=true)∧((∀x∈(ls zd_ n1 f1),x.ok))∧((zu_ (ls zd_ n1 f1)).2≠0),.tup [.agg [.int .i64 0,.int .i64 0,.int .i64 0],.int .i64 170],r1,[])
  | _=>none
 | _=>none
theorem sRLeastB_ok:zm_ Try.prog 81 sRLeastB:=by
 refine⟨zg_ (by kernel_rfl),fun args h m c v rd wr hs hm hc w0 M β h' w R hrd hwr hst=>?_⟩
 unfold sRLeastB at hs
 split at hs
 ·rename_i v1
  split at hs
  ·rename_i c1 n1 f1 r1 a1
   simp only[Option.some.injEq,Prod.mk.injEq]at hs
   obtain⟨rfl,rfl,rfl,rfl⟩:=hs
   obtain⟨k1,g1,y1,y2⟩:=hc
   obtain⟨A1,p1,d1,e1,t1⟩:=zp_ R a1 k1 (fun i hi=>hrd i hi) (by omega)
   refine yb_ (views:=[⟨5,(ls zd_ n1 f1).length,prS (ls zd_ n1 f1),A1,p1⟩]) (rleastB_lit (ls zd_ n1 f1) p1 y1 y2) ?_ R hm hwr ?_ ?_ ?_
   ·exact d20_
   ·exact d21_
   ·exact k6_
   ·exact k6_
  ·cases hs
 ·cases hs
def cRLg:FuncId→Option y4_:=xz_ [(77,sRFactR)]
theorem y7_:∀f S,cRLg f=some S→zm_ Try.prog f S:=z0_ ⟨sRFactR_ok,trivial⟩
theorem lim_lessR {t:Nat}{ex:Bool}:Less (.own t (.agg [.nat .i64 0,.nat .i64 0,.nat .i64 1]) ex) (.own t (.agg [.int .i64 0,.int .i64 0,.nat .i64 1]) ex):=
 .val (fun β=>rfl) (fun n k f e=>by cases e) (fun n k f e=>by cases e)
theorem rleast_lit (xs:List Ins)(p1:Nat)(hx:∀x∈xs,x.ok)(hc:(zu_ xs).2=0):zz_ Try.prog 81 [.sl 1 2 [] 5 0 xs.length (some p1)] [.gone,.gone,.ro (.arr xs.length 5 (prS xs))] (.tup [.agg [.int .i64 (zq_ xs (zr_ xs) xs.length).1,.int .i64 (zq_ xs (zr_ xs) xs.length).2,.int .i64 1],.int .i64 0]) [.gone]:=by
 have hl:xs.length≤256:=(yr_ hc).2.1
 obtain⟨F,hF⟩:∃F,F=zr_ xs:=⟨_,rfl⟩
 rw[←hF]
 have hll:=lim_lessR (t:=153) (ex:=true)
 refine zf_ (fn:=Try.f81) 3 102 0 rfl rfl rfl rfl rfl u7_ rfl fun w0 M E hro=>?_
 repeat' (first|refine Ctl.h ?_ |((with_reducible intro hif);first |(focus (cases hif;done)) |((try simp only[JH]at hif);try exact hy_)) |((with_reducible first|apply J22 y7_ za_|apply J23 fol y7_ za_|apply J24);(·rfl);(· (simp only[push_cast,↓JP,Nat.reduceAdd,Nat.reduceEqDiff,Nat.reduceLT,Nat.reduceMul,Nat.reduceLeDiff,reduceCtorEq,reduceIte,↓JK,↓JF,cRLg,sRFactR,y9_,yt_,ys_,yu_,yl_,←hF];rfl));(try kernel_rfl);try exact k134_)|fail)
 refine WF.loopAt (fun (k:Nat)=>k≤xs.length) (fun (k:Nat)=>[(0,.sl 1 2 [] 5 0 xs.length (some p1)),(2,.ptr 3 []),(4,.sl 4 4 [] 17 0 xs.length none),(6,.ptr 5 []),(7,.nat .i64 k)]) (fun (k:Nat)=>[.gone,.gone,.ro (.arr xs.length 5 (prS xs)),.own 153 (.agg [.nat .i64 0,.nat .i64 0,.nat .i64 0]) true,.own 212 (.arr xs.length 17 (y0_ F)) false,.own 153 (.agg [.int .i64 (zq_ xs F k).1,.int .i64 (zq_ xs F k).2,.nat .i64 1]) true]) (fun (k:Nat)=>xs.length - k) 0 (Nat.zero_le _) ?_ ?_ rfl ?_ ?_ rfl ?_
 ·exact k8_
 ·exact k5_
 ·exact k6_
 ·exact k6_
 intro k hk
 obtain⟨w1,w2,w3,w4⟩:=leastK_bd hx hc F k hk
 by_cases hkl:k < xs.length
 case neg=>
  obtain rfl:k=xs.length:=by omega
  repeat' (first|refine Ctl.h ?_ |((with_reducible intro hif);first |(focus (cases hif;done)) |((try simp only[JH]at hif);try exact hy_)) |((with_reducible first|apply J22 y7_ za_|apply J23 fol y7_ za_|apply J24);(·rfl);(· (simp only[push_cast,↓JP,Nat.reduceAdd,Nat.reduceEqDiff,Nat.reduceLT,Nat.reduceMul,Nat.reduceLeDiff,reduceCtorEq,reduceIte,↓JK,↓JF,cRLg,hkl,inN,inR];rfl));(try kernel_rfl);try exact xb_)|fail)
  apply At.endsRet za_ (fn:=Try.f81) (rs:=[.cell 2 153,.tmp 3]) Anc.refl hro (lb_ rfl) rfl
  ·exact k3_
  ·exact k4_
  ·exact k5_
  ·rfl
  ·exact k6_
  ·exact k7_
  ·exact fun β=>rfl
  ·exact k6_
 obtain⟨x,hX⟩:∃x,xs.getD k ⟨0,0,0,0,0⟩=x:=⟨_,rfl⟩
 have hR:=right_at hx hc hkl
 rw[hX]at hR
 have hsn:=send_n hR.one
 obtain⟨o0,o1,a0,a1,b0,b1,c0,c1,n0',n1'⟩:=hR.ok
 have hb8:=hR.b
 have hbn:x.b.toNat < 8:=by omega
 obtain⟨c,pp,hcp⟩:∃c pp,zq_ xs F k=(c,pp):=⟨_,_,rfl⟩
 rw[hcp]at w1 w2 w3 w4
 rw[hcp]
 dsimp only at w1 w2 w3 w4 ⊢
 have hS:zq_ xs F (k+1)=leastS x (zs_ F k) (c,pp):=by show leastS (xs.getD k ⟨0,0,0,0,0⟩) (zs_ F k) (zq_ xs F k)=_;rw[hX,hcp]
 cases hre:(zs_ F k).reached
 ·have e:zq_ xs F (k+1)=(c,pp):=by rw[hS];unfold leastS;simp[hre]
  have e1:(zq_ xs F (k+1)).1=c:=by rw[e]
  have e2:(zq_ xs F (k+1)).2=pp:=by rw[e]
  repeat' (first|refine Ctl.h ?_ |((with_reducible intro hif);first |(focus (cases hif;done)) |((try simp only[JH]at hif);try exact hy_)) |((with_reducible first|apply J22 y7_ za_|apply J23 fol y7_ za_|apply J24);(·rfl);(· (simp only[push_cast,↓JP,Nat.reduceAdd,Nat.reduceEqDiff,Nat.reduceLT,Nat.reduceMul,Nat.reduceLeDiff,reduceCtorEq,reduceIte,↓JK,↓JF,cRLg,y0_,hX,hkl,inN,inR,hre];rfl));(try kernel_rfl);try exact xb_)|fail)
  refine At.nextPick [0,1,2,3,4,5] (k+1) ?_ rfl rfl rfl ?_ rfl ?_ ?_ ?_ rfl
  ·exact⟨hkl,by omega⟩
  ·exact k132_
  ·exact k6_
  ·exact k48_
  ·exact k6_
 by_cases h8:x.op=8
 ·have hsn:=hsn h8
  by_cases q1:pp≤x.n
  ·have e:zq_ xs F (k+1)=(c,x.n+1):=by rw[hS];unfold leastS;rw[if_neg (by rw[hre];decide),if_pos h8];show (c,max pp (x.n+1))=_;rw[show max pp (x.n+1)=x.n+1 by omega]
   have e1:(zq_ xs F (k+1)).1=c:=by rw[e]
   have e2:(zq_ xs F (k+1)).2=x.n+1:=by rw[e]
   repeat' (first|refine Ctl.h ?_ |((with_reducible intro hif);first |(focus (cases hif;done)) |((try simp only[JH]at hif);try exact hy_)) |((with_reducible first|apply J22 y7_ za_|apply J23 fol y7_ za_|apply J24);(·rfl);(· exact k139_);(try kernel_rfl);try exact xb_)|fail)
   refine At.nextPick [0,1,2,3,4,5] (k+1) ?_ rfl rfl rfl ?_ rfl ?_ ?_ ?_ rfl
   ·exact⟨hkl,by omega⟩
   ·exact k132_
   ·exact k6_
   ·exact k48_
   ·exact k6_
  ·have e:zq_ xs F (k+1)=(c,pp):=by rw[hS];unfold leastS;rw[if_neg (by rw[hre];decide),if_pos h8];show (c,max pp (x.n+1))=_;rw[show max pp (x.n+1)=pp by omega]
   have e1:(zq_ xs F (k+1)).1=c:=by rw[e]
   have e2:(zq_ xs F (k+1)).2=pp:=by rw[e]
   repeat' (first|refine Ctl.h ?_ |((with_reducible intro hif);first |(focus (cases hif;done)) |((try simp only[JH]at hif);try exact hy_)) |((with_reducible first|apply J22 y7_ za_|apply J23 fol y7_ za_|apply J24);(·rfl);(· exact k139_);(try kernel_rfl);try exact xb_)|fail)
   refine At.nextPick [0,1,2,3,4,5] (k+1) ?_ rfl rfl rfl ?_ rfl ?_ ?_ ?_ rfl
   ·exact⟨hkl,by omega⟩
   ·exact k132_
   ·exact k6_
   ·exact k48_
   ·exact k6_
 by_cases h56:x.op=5∨x.op=6
 case neg=>
  have h5:¬x.op=5:=fun h=>h56 (.inl h)
  have h6:¬x.op=6:=fun h=>h56 (.inr h)
  have e:zq_ xs F (k+1)=(c,pp):=by rw[hS];unfold leastS;rw[if_neg (by rw[hre];decide),if_neg h8,if_neg h56]
  have e1:(zq_ xs F (k+1)).1=c:=by rw[e]
  have e2:(zq_ xs F (k+1)).2=pp:=by rw[e]
  repeat' (first|refine Ctl.h ?_ |((with_reducible intro hif);first |(focus (cases hif;done)) |((try simp only[JH]at hif);try exact hy_)) |((with_reducible first|apply J22 y7_ za_|apply J23 fol y7_ za_|apply J24);(·rfl);(· (simp only[push_cast,↓JP,Nat.reduceAdd,Nat.reduceEqDiff,Nat.reduceLT,Nat.reduceMul,Nat.reduceLeDiff,reduceCtorEq,reduceIte,↓JK,↓JF,cRLg,y0_,hX,hkl,inN,inR,hre,h8,h5,h6];rfl));(try kernel_rfl);try exact xb_)|fail)
  refine At.nextPick [0,1,2,3,4,5] (k+1) ?_ rfl rfl rfl ?_ rfl ?_ ?_ ?_ rfl
  ·exact⟨hkl,by omega⟩
  ·exact k132_
  ·exact k6_
  ·exact k48_
  ·exact k6_
 have hS2:leastS x (zs_ F k) (c,pp)=(max c (lstN (zs_ F k) x+1),pp):=by unfold leastS;rw[if_neg (by rw[hre];decide),if_neg h8,if_pos h56]
 rw[hS2]at hS
 clear hS2
 by_cases h5:x.op=5
 case' pos=>have h6:¬x.op=6:=by omega
 case' neg=>have h6:x.op=6:=by omega
 all_goals
  by_cases hz:c=0
  ·subst hz
   cases q1:((zs_ F k).regs x.b.toNat).is_
   ·have e:zq_ xs F (k+1)=(1,pp):=by rw[hS];rw[show lstN (zs_ F k) x=0 by unfold lstN;rw[if_pos (.inl q1)]];show (max 0 ((0:Int)+1),pp)=_;rw[show max (0:Int) ((0:Int)+1)=1 by omega]
    have e1:(zq_ xs F (k+1)).1=1:=by rw[e]
    have e2:(zq_ xs F (k+1)).2=pp:=by rw[e]
    repeat' (first|refine Ctl.h ?_ |((with_reducible intro hif);first |(focus (cases hif;done)) |((try simp only[JH]at hif);try exact hy_)) |((with_reducible first|apply J22 y7_ za_|apply J23 fol y7_ za_|apply J24);(·rfl);(· (simp only[push_cast,↓JP,Nat.reduceAdd,Nat.reduceEqDiff,Nat.reduceLT,Nat.reduceMul,Nat.reduceLeDiff,reduceCtorEq,reduceIte,↓JK,↓JF,cRLg,y0_,hX,hkl,inN,inR,hre,h8,h5,h6,q1];rfl));(try kernel_rfl);try exact xb_)|fail)
    refine At.nextPick [0,1,2,3,4,5] (k+1) ?_ rfl rfl rfl ?_ rfl ?_ ?_ ?_ rfl
    ·exact⟨hkl,by omega⟩
    ·exact k132_
    ·exact k6_
    ·exact k48_
    ·exact k6_
   by_cases q2:1≤((zs_ F k).regs x.b.toNat).n
   ·by_cases q3:((zs_ F k).regs x.b.toNat).n < 1024
    ·have e:zq_ xs F (k+1)=(((zs_ F k).regs x.b.toNat).n+1,pp):=by rw[hS];rw[show lstN (zs_ F k) x=((zs_ F k).regs x.b.toNat).n by unfold lstN;rw[if_neg (by rw[q1];simp;omega)]];rw[show max (0:Int) (((zs_ F k).regs x.b.toNat).n+1)=((zs_ F k).regs x.b.toNat).n+1 by omega]
     have e1:(zq_ xs F (k+1)).1=((zs_ F k).regs x.b.toNat).n+1:=by rw[e]
     have e2:(zq_ xs F (k+1)).2=pp:=by rw[e]
     repeat' (first|refine Ctl.h ?_ |((with_reducible intro hif);first |(focus (cases hif;done)) |((try simp only[JH]at hif);try exact hy_)) |((with_reducible first|apply J22 y7_ za_|apply J23 fol y7_ za_|apply J24);(·rfl);(· exact k140_);(try kernel_rfl);try exact xb_)|fail)
     refine At.nextPick [0,1,2,3,4,5] (k+1) ?_ rfl rfl rfl ?_ rfl ?_ ?_ ?_ rfl
     ·exact⟨hkl,by omega⟩
     ·exact k132_
     ·exact k6_
     ·exact k48_
     ·exact k6_
    ·have e:zq_ xs F (k+1)=(1,pp):=by rw[hS];rw[show lstN (zs_ F k) x=0 by unfold lstN;rw[if_pos (.inr (.inr (by omega)))]];rw[show max (0:Int) ((0:Int)+1)=1 by omega]
     have e1:(zq_ xs F (k+1)).1=1:=by rw[e]
     have e2:(zq_ xs F (k+1)).2=pp:=by rw[e]
     repeat' (first|refine Ctl.h ?_ |((with_reducible intro hif);first |(focus (cases hif;done)) |((try simp only[JH]at hif);try exact hy_)) |((with_reducible first|apply J22 y7_ za_|apply J23 fol y7_ za_|apply J24);(·rfl);(· exact k140_);(try kernel_rfl);try exact xb_)|fail)
     refine At.nextPick [0,1,2,3,4,5] (k+1) ?_ rfl rfl rfl ?_ rfl ?_ ?_ ?_ rfl
     ·exact⟨hkl,by omega⟩
     ·exact k132_
     ·exact k6_
     ·exact k48_
     ·exact k6_
   ·have e:zq_ xs F (k+1)=(1,pp):=by rw[hS];have hb:=lstN_bd (zs_ F k) x;have:lstN (zs_ F k) x=0∨lstN (zs_ F k) x=((zs_ F k).regs x.b.toNat).n:=(by unfold lstN;split<;>simp);rw[show max (0:Int) (lstN (zs_ F k) x+1)=1 by omega]
    have e1:(zq_ xs F (k+1)).1=1:=by rw[e]
    have e2:(zq_ xs F (k+1)).2=pp:=by rw[e]
    repeat' (first|refine Ctl.h ?_ |((with_reducible intro hif);first |(focus (cases hif;done)) |((try simp only[JH]at hif);try exact hy_)) |((with_reducible first|apply J22 y7_ za_|apply J23 fol y7_ za_|apply J24);(·rfl);(· (simp only[push_cast,↓JP,Nat.reduceAdd,Nat.reduceEqDiff,Nat.reduceLT,Nat.reduceMul,Nat.reduceLeDiff,reduceCtorEq,reduceIte,↓JK,↓JF,cRLg,y0_,hX,hkl,inN,inR,hre,h8,h5,h6,q1,q2];rfl));(try kernel_rfl);try exact xb_)|fail)
    refine At.nextPick [0,1,2,3,4,5] (k+1) ?_ rfl rfl rfl ?_ rfl ?_ ?_ ?_ rfl
    ·exact⟨hkl,by omega⟩
    ·exact k132_
    ·exact k6_
    ·exact k48_
    ·exact k6_
  cases q1:((zs_ F k).regs x.b.toNat).is_
  ·have e:zq_ xs F (k+1)=(c,pp):=by rw[hS];rw[show lstN (zs_ F k) x=0 by unfold lstN;rw[if_pos (.inl q1)]];show (max c ((0:Int)+1),pp)=_;rw[show max c ((0:Int)+1)=c by omega]
   have e1:(zq_ xs F (k+1)).1=c:=by rw[e]
   have e2:(zq_ xs F (k+1)).2=pp:=by rw[e]
   repeat' (first|refine Ctl.h ?_ |((with_reducible intro hif);first |(focus (cases hif;done)) |((try simp only[JH]at hif);try exact hy_)) |((with_reducible first|apply J22 y7_ za_|apply J23 fol y7_ za_|apply J24);(·rfl);(· (simp only[push_cast,↓JP,Nat.reduceAdd,Nat.reduceEqDiff,Nat.reduceLT,Nat.reduceMul,Nat.reduceLeDiff,reduceCtorEq,reduceIte,↓JK,↓JF,cRLg,y0_,hX,hkl,inN,inR,hre,h8,h5,h6,hz,q1];rfl));(try kernel_rfl);try exact xb_)|fail)
   refine At.nextPick [0,1,2,3,4,5] (k+1) ?_ rfl rfl rfl ?_ rfl ?_ ?_ ?_ rfl
   ·exact⟨hkl,by omega⟩
   ·exact k132_
   ·exact k6_
   ·exact k48_
   ·exact k6_
  by_cases q2:c≤((zs_ F k).regs x.b.toNat).n
  ·by_cases q3:((zs_ F k).regs x.b.toNat).n < 1024
   ·have e:zq_ xs F (k+1)=(((zs_ F k).regs x.b.toNat).n+1,pp):=by rw[hS];rw[show lstN (zs_ F k) x=((zs_ F k).regs x.b.toNat).n by unfold lstN;rw[if_neg (by rw[q1];simp;omega)]];rw[show max c (((zs_ F k).regs x.b.toNat).n+1)=((zs_ F k).regs x.b.toNat).n+1 by omega]
    have e1:(zq_ xs F (k+1)).1=((zs_ F k).regs x.b.toNat).n+1:=by rw[e]
    have e2:(zq_ xs F (k+1)).2=pp:=by rw[e]
    repeat' (first|refine Ctl.h ?_ |((with_reducible intro hif);first |(focus (cases hif;done)) |((try simp only[JH]at hif);try exact hy_)) |((with_reducible first|apply J22 y7_ za_|apply J23 fol y7_ za_|apply J24);(·rfl);(· exact k141_);(try kernel_rfl);try exact xb_)|fail)
    refine At.nextPick [0,1,2,3,4,5] (k+1) ?_ rfl rfl rfl ?_ rfl ?_ ?_ ?_ rfl
    ·exact⟨hkl,by omega⟩
    ·exact k132_
    ·exact k6_
    ·exact k48_
    ·exact k6_
   ·have e:zq_ xs F (k+1)=(c,pp):=by rw[hS];rw[show lstN (zs_ F k) x=0 by unfold lstN;rw[if_pos (.inr (.inr (by omega)))]];rw[show max c ((0:Int)+1)=c by omega]
    have e1:(zq_ xs F (k+1)).1=c:=by rw[e]
    have e2:(zq_ xs F (k+1)).2=pp:=by rw[e]
    repeat' (first|refine Ctl.h ?_ |((with_reducible intro hif);first |(focus (cases hif;done)) |((try simp only[JH]at hif);try exact hy_)) |((with_reducible first|apply J22 y7_ za_|apply J23 fol y7_ za_|apply J24);(·rfl);(· exact k141_);(try kernel_rfl);try exact xb_)|fail)
    refine At.nextPick [0,1,2,3,4,5] (k+1) ?_ rfl rfl rfl ?_ rfl ?_ ?_ ?_ rfl
    ·exact⟨hkl,by omega⟩
    ·exact k132_
    ·exact k6_
    ·exact k48_
    ·exact k6_
  ·have e:zq_ xs F (k+1)=(c,pp):=by rw[hS];have hb:=lstN_bd (zs_ F k) x;have:lstN (zs_ F k) x=0∨lstN (zs_ F k) x=((zs_ F k).regs x.b.toNat).n:=(by unfold lstN;split<;>simp);rw[show max c (lstN (zs_ F k) x+1)=c by omega]
   have e1:(zq_ xs F (k+1)).1=c:=by rw[e]
   have e2:(zq_ xs F (k+1)).2=pp:=by rw[e]
   repeat' (first|refine Ctl.h ?_ |((with_reducible intro hif);first |(focus (cases hif;done)) |((try simp only[JH]at hif);try exact hy_)) |((with_reducible first|apply J22 y7_ za_|apply J23 fol y7_ za_|apply J24);(·rfl);(· (simp only[push_cast,↓JP,Nat.reduceAdd,Nat.reduceEqDiff,Nat.reduceLT,Nat.reduceMul,Nat.reduceLeDiff,reduceCtorEq,reduceIte,↓JK,↓JF,cRLg,y0_,hX,hkl,inN,inR,hre,h8,h5,h6,hz,q1,q2];rfl));(try kernel_rfl);try exact xb_)|fail)
   refine At.nextPick [0,1,2,3,4,5] (k+1) ?_ rfl rfl rfl ?_ rfl ?_ ?_ ?_ rfl
   ·exact⟨hkl,by omega⟩
   ·exact k132_
   ·exact k6_
   ·exact k48_
   ·exact k6_
def sRLeast:y4_:=fun args h m=>match args with
 | [v1]=>match srcV h 5 (.tup []) v1 with
  | some (c1,n1,f1,r1)=>some (c1∧(∀q,q < n1→xt_ (f1 q)=true)∧((∀x∈(ls zd_ n1 f1),x.ok))∧((zu_ (ls zd_ n1 f1)).2=0),.tup [.agg [.int .i64 (zq_ (ls zd_ n1 f1) (zr_ (ls zd_ n1 f1)) (ls zd_ n1 f1).length).1,.int .i64 (zq_ (ls zd_ n1 f1) (zr_ (ls zd_ n1 f1)) (ls zd_ n1 f1).length).2,.int .i64 1],.int .i64 0],r1,[])
  | _=>none
 | _=>none
theorem sRLeast_ok:zm_ Try.prog 81 sRLeast:=by
 refine⟨zg_ (by kernel_rfl),fun args h m c v rd wr hs hm hc w0 M β h' w R hrd hwr hst=>?_⟩
 unfold sRLeast at hs
 split at hs
 ·rename_i v1
  split at hs
  ·rename_i c1 n1 f1 r1 a1
   simp only[Option.some.injEq,Prod.mk.injEq]at hs
   obtain⟨rfl,rfl,rfl,rfl⟩:=hs
   obtain⟨k1,g1,y1,y2⟩:=hc
   obtain⟨A1,p1,d1,e1,t1⟩:=zp_ R a1 k1 (fun i hi=>hrd i hi) (by omega)
   refine yb_ (views:=[⟨5,(ls zd_ n1 f1).length,prS (ls zd_ n1 f1),A1,p1⟩]) (rleast_lit (ls zd_ n1 f1) p1 y1 y2) ?_ R hm hwr ?_ ?_ ?_
   ·exact d20_
   ·exact d21_
   ·exact k6_
   ·exact k6_
  ·cases hs
 ·cases hs
end Go.Proofs.Ytmljmabbopkpiaa.Vm
end

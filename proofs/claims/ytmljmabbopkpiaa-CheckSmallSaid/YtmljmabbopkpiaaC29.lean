import Derived.Test.YtmljmabbopkpiaaC1
import Derived.Test.YtmljmabbopkpiaaC13
import Derived.Test.YtmljmabbopkpiaaC16
import Derived.Test.YtmljmabbopkpiaaC24
import Derived.Test.YtmljmabbopkpiaaC28
set_option linter.unusedSimpArgs false
set_option linter.unusedVariables false
set_option maxRecDepth 100000
set_option maxHeartbeats 4000000
section
open Go.Proofs.Ytmljmabbopkpiaa.Vm Go.RowKit
attribute [local push_cast] eqB eqBL allB prS sndsS zw_ nav_ins xs_ xr_ xq_ xp_ xo_ nav_snd xn_ xm_ xl_ yo_ yi_ yv_ yq_ yz_ yy_ iOf nav_k nav_k0 nav_k1 nav_ka nav_kai nav_ft nav_ft0 nav_ft1 isKn_kS knOf_kS isKa_kaS kaOf_kaS isFt_ftS ftOf_ftS setp_ka setp_ftk setp_ftr setp_fti evm_ins evm_snd evm_k evm_ka evm_ft
section
namespace Go.Proofs.Ytmljmabbopkpiaa.Vm
open Go.RowKit
theorem mixR_at (a b:Nat→Kn)(j:Nat):mixR j a b j=a j:=by unfold mixR;rw[if_neg (Nat.lt_irrefl j)]
theorem mixR_0 (a b:Nat→Kn):mixR 0 a b=a:=by funext q;unfold mixR;rw[if_neg (Nat.not_lt_zero q)]
theorem mixR_set (a b:Nat→Kn)(j:Nat):setK (mixR j a b) j (bothK (a j) (b j))=mixR (j+1) a b:=by
 funext q
 unfold setK mixR
 by_cases h:q=j
 ·subst h;rw[if_pos rfl,if_pos (by omega)]
 ·rw[if_neg h]
  by_cases h2:q < j
  ·rw[if_pos h2,if_pos (by omega)]
  ·rw[if_neg h2,if_neg (by omega)]
def cRJo:FuncId→Option y4_:=xz_ [(147,sRBoth)]
theorem cRJo_ok:∀f S,cRJo f=some S→zm_ Try.prog f S:=z0_ ⟨sRBoth_ok,trivial⟩
theorem join_lit (a b:Ft):zz_ Try.prog 114 [ftS a,ftS b] [.gone] (ftS (joinT a b)) [.gone]:=by
 cases ha:a.reached
 ·rw[show joinT a b=b from if_pos ha]
  refine zf_ (fn:=Try.f114) 1 31 0 rfl rfl rfl rfl rfl u7_ rfl fun w0 M E hro=>?_
  repeat' (first|refine Ctl.h ?_ |((with_reducible intro hif);first |(focus (cases hif;done)) |((try simp only[JH]at hif);try exact hy_)) |((with_reducible first|apply J22 cRJo_ok za_|apply J23 fol cRJo_ok za_|apply J24);(·rfl);(· (simp only[push_cast,↓JP,Nat.reduceAdd,Nat.reduceEqDiff,Nat.reduceLT,Nat.reduceMul,Nat.reduceLeDiff,reduceCtorEq,reduceIte,↓JK,↓JF,cRJo,sRBoth,ha,inN,inR];rfl));(try kernel_rfl);try exact xx_)|fail)
  apply At.endsRet za_ (fn:=Try.f114) (rs:=[.cell 4 212]) Anc.refl hro (lb_ rfl) rfl
  ·exact k3_
  ·exact k4_
  ·exact k5_
  ·rfl
  ·exact k6_
  ·exact k7_
  ·exact fun β=>rfl
  ·exact k6_
 cases hb:b.reached
 ·rw[show joinT a b=a by unfold joinT;rw[ha,if_neg (by decide),if_pos hb]]
  refine zf_ (fn:=Try.f114) 1 31 0 rfl rfl rfl rfl rfl u7_ rfl fun w0 M E hro=>?_
  repeat' (first|refine Ctl.h ?_ |((with_reducible intro hif);first |(focus (cases hif;done)) |((try simp only[JH]at hif);try exact hy_)) |((with_reducible first|apply J22 cRJo_ok za_|apply J23 fol cRJo_ok za_|apply J24);(·rfl);(· exact k105_);(try kernel_rfl);try exact xx_)|fail)
  apply At.endsRet za_ (fn:=Try.f114) (rs:=[.cell 4 212]) Anc.refl hro (lb_ rfl) rfl
  ·exact k3_
  ·exact k4_
  ·exact k5_
  ·rfl
  ·exact k6_
  ·exact k7_
  ·exact fun β=>rfl
  ·exact k6_
 have e:joinT a b=⟨a.reached,mixR 8 a.regs b.regs⟩:=by unfold joinT;rw[ha,if_neg (by decide),if_neg (by rw[hb];decide)]
 rw[e]
 refine zf_ (fn:=Try.f114) 1 31 0 rfl rfl rfl rfl rfl u7_ rfl fun w0 M E hro=>?_
 repeat' (first|refine Ctl.h ?_ |((with_reducible intro hif);first |(focus (cases hif;done)) |((try simp only[JH]at hif);try exact hy_)) |((with_reducible first|apply J22 cRJo_ok za_|apply J23 fol cRJo_ok za_|apply J24);(·rfl);(· exact k105_);(try kernel_rfl);try exact xx_)|fail)
 have l0:∀ex,Less (.own 212 (ftS a) ex) (.own 212 (ftS ⟨a.reached,mixR 0 a.regs b.regs⟩) ex):=fun ex=>by rw[mixR_0];exact .same _
 have l0':=l0 true
 refine WF.loopAt (fun (j:Nat)=>j≤8) (fun (j:Nat)=>[(2,.ptr 1 []),(3,.ptr 2 []),(4,.ptr 3 []),(5,.nat .i64 j)]) (fun (j:Nat)=>[.gone,.own 212 (ftS ⟨a.reached,mixR j a.regs b.regs⟩) true,.own 212 (ftS b) true,.own 212 (.agg [.bool false,.arr 8 2 fun _=>.agg [.bool false,.nat .i64 0]]) true]) (fun (j:Nat)=>8 - j) 0 (Nat.zero_le _) ?_ ?_ rfl ?_ ?_ rfl ?_
 ·exact k8_
 ·exact k5_
 ·exact k6_
 ·exact k6_
 intro j hj
 by_cases hj8:j < 8
 ·repeat' (first|refine Ctl.h ?_ |((with_reducible intro hif);first |(focus (cases hif;done)) |((try simp only[JH]at hif);try exact hy_)) |((with_reducible first|apply J22 cRJo_ok za_|apply J23 fol cRJo_ok za_|apply J24);(·rfl);(· (simp only[push_cast,↓JP,Nat.reduceAdd,Nat.reduceEqDiff,Nat.reduceLT,Nat.reduceMul,Nat.reduceLeDiff,reduceCtorEq,reduceIte,↓JK,↓JF,cRJo,sRBoth,mixR_at,hj8,inN,inR];rfl));(try kernel_rfl);try exact xx_)|fail)
  refine At.nextPick [0,1,2,3] (j+1) ?_ rfl rfl rfl ?_ rfl ?_ ?_ ?_ rfl
  ·omega
  ·(repeat' (first|exact trivial|exact .inl rfl|exact .inr (.same _)|exact .inr .loose|exact .inr (.arr (by assumption))|apply And.intro |(rw[mixR_set];exact .inr (.same _))))
  ·exact k6_
  ·exact k48_
  ·exact k6_
 ·obtain rfl:j=8:=by omega
  repeat' (first|refine Ctl.h ?_ |((with_reducible intro hif);first |(focus (cases hif;done)) |((try simp only[JH]at hif);try exact hy_)) |((with_reducible first|apply J22 cRJo_ok za_|apply J23 fol cRJo_ok za_|apply J24);(·rfl);(· (simp only[push_cast,↓JP,Nat.reduceAdd,Nat.reduceEqDiff,Nat.reduceLT,Nat.reduceMul,Nat.reduceLeDiff,reduceCtorEq,reduceIte,↓JK,↓JF,cRJo,sRBoth,hj8,inN,inR];rfl));(try kernel_rfl);try exact xx_)|fail)
  apply At.endsRet za_ (fn:=Try.f114) (rs:=[.cell 4 212]) Anc.refl hro (lb_ rfl) rfl
  ·exact k3_
  ·exact k4_
  ·exact k5_
  ·rfl
  ·exact k6_
  ·exact k7_
  ·exact fun β=>rfl
  ·exact k6_
def sRJoin:y4_:=fun args h m=>match args with
 | [v1,v2]=>bif isFt v1 && isFt v2 then some (True,ftS (joinT (ftOf v1) (ftOf v2)),[],[])else none
 | _=>none
theorem sRJoin_ok:zm_ Try.prog 114 sRJoin:=by
 refine⟨zg_ (by kernel_rfl),fun args h m c v rd wr hs hm hc w0 M β h' w R hrd hwr hst=>?_⟩
 unfold sRJoin at hs
 split at hs
 ·rename_i v1 v2
  obtain⟨hb,hs⟩:=zn_ hs
  simp only[Option.some.injEq,Prod.mk.injEq]at hs
  obtain⟨rfl,rfl,rfl,rfl⟩:=hs
  simp only[Bool.and_eq_true]at hb
  obtain⟨b1,b2⟩:=hb
  refine yb_ (views:=[]) (join_lit (ftOf v1) (ftOf v2)) ?_ R hm hwr ?_ ?_ ?_
  ·intro x hx;cases hx
  ·intro β1 hv
   simp only[denL,z7_,z6_,z5_,zt_,zc_,ftOf_den b1,ftOf_den b2,ftS_den]
  ·exact k6_
  ·exact k6_
 ·cases hs
def begT (r:Nat):Ft:=⟨true,fun k=>if 3≤k∧k < r then ⟨true,0⟩ else K0⟩
theorem begT_set (j:Nat)(h:3≤j):(⟨true,setK (begT j).regs j ⟨true,((begT j).regs j).n⟩⟩:Ft)=begT (j+1):=by
 unfold begT setK
 congr 1
 funext q
 dsimp only
 rw[if_neg (show ¬(3≤j∧j < j) by omega)]
 by_cases h1:q=j
 ·subst h1;rw[if_pos rfl,if_pos ⟨h,by omega⟩];rfl
 ·rw[if_neg h1]
  by_cases h2:3≤q∧q < j
  ·rw[if_pos h2,if_pos ⟨h2.1,by omega⟩]
  ·rw[if_neg h2,if_neg (by omega)]
theorem raw_ft {c:Bool}{f:Ft}(hc:f.reached=c)(h:∀q,q < 8→f.regs q=K0)(t:Nat)(ex:Bool):Less (.own t (.agg [.bool c,.arr 8 2 fun _=>.agg [.bool false,.nat .i64 0]]) ex) (.own t (ftS f) ex):=by
 obtain⟨c',r⟩:=f
 dsimp only at hc h
 subst hc
 exact less_ft fun q hq β=>by rw[h q hq];rfl
theorem ftS_cl {β : Env}(f:Ft):(ftS f).cl β = .bool f.reached::kcsL f.regs:=by
 show (SV.agg [.bool f.reached,kaS f.regs]).cl β = _
 rw[cl_agg,yk_,yk_,clL_nil,kaOf_cl (isKa_kaS _),kaOf_kaS,List.append_nil];rfl
theorem ftS_ren2 (ρ : Nat→Nat)(f:Ft):(ftS f).ren ρ = ftS f:=by simp only[ftS,kaS,kS,SV.ren,renL]
theorem ftsS_ren (ρ : Nat→Nat)(l:List Ft):(fun q=>(y0_ l q).ren ρ)=y0_ l:=by funext q;exact ftS_ren2 ρ _
theorem less_catF {t:Nat}{σ : Nat→Nat}{b:Bool}(S:List Ft)(x:Ft){n:Nat}{U:List Ft}(hn:S.length=n)(hU:S++[x]=U){m:Nat}(hm:m=U.length){g:Nat→SV}{xv z:SV}(hg:g=fun q=>SV.ite (decide (q < n)) (y0_ S q) ([xv].getD (q - n) z))(hx:∀β,xv.cl β =(ftS x).cl β) :
  Less (.own t (.arr m 17 g) b) ((HB.own t (.arr m 17 (y0_ U)) b).ren σ):=by
 subst hm
 have e:(HB.own t (.arr U.length 17 (y0_ U)) b).ren σ = .own t (.arr U.length 17 (y0_ U)) b:=by
  simp only[HB.ren,SV.ren];rw[ftsS_ren]
 rw[e]
 refine .val (fun β=>arrCl fun q hq=>?_) (fun n1 k1 f1 e=>by injection e with e1 e2 e3;subst e1 e2;exact⟨_,rfl⟩) (fun n1 k1 f1 e=>by injection e with e1 e2 e3;subst e1 e2;exact⟨_,rfl⟩)
 subst hg hU hn
 dsimp only
 rw[x1_]
 unfold y0_ zs_
 by_cases h:q < S.length
 ·exact d30_
 ·exact d31_
theorem less_ftsB {t:Nat}{σ : Nat→Nat}{b:Bool}{n:Nat}{F G:List Ft}(h:∀k,k < n→ftB (zs_ F k) (zs_ G k)=true):Less (.own t (.arr n 17 (y0_ F)) b) ((HB.own t (.arr n 17 (y0_ G)) b).ren σ):=by
 have e:(HB.own t (.arr n 17 (y0_ G)) b).ren σ = .own t (.arr n 17 (y0_ G)) b:=by
  simp only[HB.ren,SV.ren];rw[ftsS_ren]
 rw[e]
 refine .val (fun β=>arrCl fun q hq=>?_) (fun n1 k1 f1 e=>by injection e with e1 e2 e3;subst e1 e2;exact⟨_,rfl⟩) (fun n1 k1 f1 e=>by injection e with e1 e2 e3;subst e1 e2;exact⟨_,rfl⟩)
 obtain⟨e1,e2⟩:=ftB_eq (h q hq)
 unfold y0_
 rw[ftS_cl,ftS_cl,e1]
 unfold kcsL
 rw[e2 0 (by decide),e2 1 (by decide),e2 2 (by decide),e2 3 (by decide),e2 4 (by decide),e2 5 (by decide),e2 6 (by decide),e2 7 (by decide)]
def chgB (p:List Ins)(J:List Ft):Nat→Bool
 | 0=>false
 | k+1=>chgB p J k || !ftB (zs_ (jacF p J) k) (zs_ J k)
theorem chgB_no {p:List Ins}{J:List Ft}:∀{n:Nat},chgB p J n=false→∀k,k < n→ftB (zs_ (jacF p J) k) (zs_ J k)=true
 | 0,_,k,hk=>by omega
 | n+1,h,k,hk=>by
  unfold chgB at h
  simp only[Bool.or_eq_false_iff,Bool.not_eq_false']at h
  by_cases q:k=n
  ·subst q;exact h.2
  ·exact chgB_no h.1 k (by omega)
theorem chgB_yes {p:List Ins}{J:List Ft}:∀{n:Nat},chgB p J n=true→∃k,k < n∧ftB (zs_ (jacF p J) k) (zs_ J k)=false
 | 0,h=>by cases h
 | n+1,h=>by
  unfold chgB at h
  simp only[Bool.or_eq_true,Bool.not_eq_true']at h
  rcases h with h|h
  ·obtain⟨k,hk,e⟩:=chgB_yes h;exact⟨k,by omega,e⟩
  ·exact⟨n,by omega,h⟩
theorem jac_take {p:List Ins}{J:List Ft}{k:Nat}(hk:k < p.length):(jacF p J).take k++[colF p J k p.length]=(jacF p J).take (k+1):=by
 have hl:=jac_len p J
 rw[List.take_add_one,List.getElem?_eq_getElem (by omega)]
 congr 2
 have:=jac_get (J:=J) hk
 unfold zs_ at this
 rw[List.getD_eq_getElem?_getD,List.getElem?_eq_getElem (by omega)]at this
 exact this.symm
theorem rep_snoc (i:Nat):List.replicate i F0++[F0]=List.replicate (i+1) F0:=by rw[List.replicate_succ']
def cRFa:FuncId→Option y4_:=xz_ [(112,sRCheck),(113,sRGo17),(115,sRAft),(114,sRJoin)]
theorem y8_:∀f S,cRFa f=some S→zm_ Try.prog f S:=z0_ ⟨sRCheck_ok,sRGo17_ok,sRAft_ok,sRJoin_ok,trivial⟩
theorem rfactsB_lit (P:List Ins)(p1:Nat)(hx:∀x∈P,x.ok)(hc:(zu_ P).2≠0):zz_ Try.prog 77 [.sl 1 2 [] 5 0 P.length (some p1)] [.gone,.gone,.ro (.arr P.length 5 (prS P))] (.tup [.sl 0 0 [] 0 0 0 (some 0),.int .i64 170]) [.gone]:=by
 obtain⟨e,he⟩:∃e,(zu_ P).2=e:=⟨_,rfl⟩
 rw[he]at hc
 refine zf_ (fn:=Try.f77) 3 99 0 rfl rfl rfl rfl rfl u7_ rfl fun w0 M E hro=>?_
 repeat' (first|refine Ctl.h ?_ |((with_reducible intro hif);first |(focus (cases hif;done)) |((try simp only[JH]at hif);try exact hy_)) |((with_reducible first|apply J22 y8_ za_|apply J23 fol y8_ za_|apply J24);(·rfl);(· (simp only[push_cast,↓JP,Nat.reduceAdd,Nat.reduceEqDiff,Nat.reduceLT,Nat.reduceMul,Nat.reduceLeDiff,reduceCtorEq,reduceIte,↓JK,↓JF,cRFa,sRCheck,y9_,yt_,ys_,he,hc];rfl));(try kernel_rfl);(try (focus (first|exact True.intro |((try simp only[JS,implies_true,forall_const,yc_,yf_,kndOf]);(first|exact⟨fun q _=>rfl,hx⟩ |(repeat' (first|assumption|exact True.intro|omega|apply And.intro)));done)))))|fail)
 apply At.endsRet za_ (fn:=Try.f77) (rs:=[.tmp 2,.tmp 3]) Anc.refl hro (lb_ rfl) rfl
 ·exact k3_
 ·exact k4_
 ·exact k5_
 ·rfl
 ·exact k6_
 ·exact k7_
 ·exact fun β=>rfl
 ·exact k6_
def sRFactB:y4_:=fun args h m=>match args with
 | [v1]=>match srcV h 5 (.tup []) v1 with
  | some (c1,n1,f1,r1)=>some (c1∧(∀q,q < n1→xt_ (f1 q)=true)∧((∀x∈(ls zd_ n1 f1),x.ok))∧((zu_ (ls zd_ n1 f1)).2≠0),.tup [.sl 0 0 [] 0 0 0 (some 0),.int .i64 170],r1,[])
  | _=>none
 | _=>none
theorem sRFactB_ok:zm_ Try.prog 77 sRFactB:=by
 refine⟨zg_ (by kernel_rfl),fun args h m c v rd wr hs hm hc w0 M β h' w R hrd hwr hst=>?_⟩
 unfold sRFactB at hs
 split at hs
 ·rename_i v1
  split at hs
  ·rename_i c1 n1 f1 r1 a1
   simp only[Option.some.injEq,Prod.mk.injEq]at hs
   obtain⟨rfl,rfl,rfl,rfl⟩:=hs
   obtain⟨k1,g1,y1,y2⟩:=hc
   obtain⟨A1,p1,d1,e1,t1⟩:=zp_ R a1 k1 (fun i hi=>hrd i hi) (by omega)
   refine yb_ (views:=[⟨5,(ls zd_ n1 f1).length,prS (ls zd_ n1 f1),A1,p1⟩]) (rfactsB_lit (ls zd_ n1 f1) p1 y1 y2) ?_ R hm hwr ?_ ?_ ?_
   ·exact d20_
   ·exact d21_
   ·exact k6_
   ·exact k6_
  ·cases hs
 ·cases hs
structure JcS (P:List Ins) (c:Bool) (J:List Ft):Prop where
 len:J.length=P.length
 go:c=true→JI P J
 no:c=false→∀k,k < P.length→ftB (zs_ J k) (zs_ (zr_ P) k)=true
theorem rfacts_lit (P:List Ins)(p1:Nat)(hx:∀x∈P,x.ok)(hc:(zu_ P).2=0):zz_ Try.prog 77 [.sl 1 2 [] 5 0 P.length (some p1)] [.gone,.gone,.ro (.arr P.length 5 (prS P))] (.tup [.sl 3 3 [] 17 0 P.length none,.int .i64 0]) [.gone,.gone,.gone,.own 212 (.arr P.length 17 (y0_ (zr_ P))) false]:=by
 have hn:=(yr_ hc).2.1
 have hn0:=(yr_ hc).1
 obtain⟨n,hnn⟩:∃n,P.length=n:=⟨_,rfl⟩
 refine zf_ (fn:=Try.f77) 3 99 0 rfl rfl rfl rfl rfl u7_ rfl fun w0 M E hro=>?_
 repeat' (first|refine Ctl.h ?_ |((with_reducible intro hif);first |(focus (cases hif;done)) |((try simp only[JH]at hif);try exact hy_)) |((with_reducible first|apply J22 y8_ za_|apply J23 fol y8_ za_|apply J24);(·rfl);(· (simp only[push_cast,↓JP,Nat.reduceAdd,Nat.reduceEqDiff,Nat.reduceLT,Nat.reduceMul,Nat.reduceLeDiff,reduceCtorEq,reduceIte,↓JK,↓JF,cRFa,sRCheck,y9_,yt_,ys_,hc,inN,inR];rfl));(try kernel_rfl);(try (focus (first|exact True.intro |((try simp only[JS,implies_true,forall_const,yc_,yf_,kndOf,inN,inR]);(first|exact⟨fun q _=>rfl,hx⟩ |(repeat' (first|assumption|exact True.intro|omega|apply And.intro)));done)))))|fail)
 have l0:=raw_ft (c:=true) (f:=begT 3) rfl (fun q _=>by unfold begT;dsimp only;rw[if_neg (by omega)]) 212 true
 refine WF.loopAt (fun (r:Nat)=>3≤r∧r≤8) (fun (r:Nat)=>[(0,.sl 1 2 [] 5 0 P.length (some p1)),(6,.ptr 3 []),(7,.nat .i64 r)]) (fun (r:Nat)=>[.gone,.gone,.ro (.arr P.length 5 (prS P)),.own 212 (ftS (begT r)) true]) (fun (r:Nat)=>8 - r) 3 (by omega) ?_ ?_ rfl ?_ ?_ rfl ?_
 ·exact k8_
 ·exact k5_
 ·exact k6_
 ·exact k6_
 intro r hr
 by_cases hr8:r < 8
 ·repeat' (first|refine Ctl.h ?_ |((with_reducible intro hif);first |(focus (cases hif;done)) |((try simp only[JH]at hif);try exact hy_)) |((with_reducible first|apply J22 y8_ za_|apply J23 fol y8_ za_|apply J24);(·rfl);(· exact k106_);(try kernel_rfl);try exact xx_)|fail)
  refine At.nextPick [0,1,2,3] (r+1) ?_ rfl rfl rfl ?_ rfl ?_ ?_ ?_ rfl
  ·omega
  ·(repeat' (first|exact trivial|exact .inl rfl|exact .inr (.same _)|exact .inr .loose|exact .inr (.arr (by assumption))|apply And.intro |(rw[show (begT r).reached=true from rfl,begT_set r hr.1];exact .inr (.same _))))
  ·exact k6_
  ·exact k48_
  ·exact k6_
 obtain rfl:r=8:=by omega
 repeat' (first|refine Ctl.h ?_ |((with_reducible intro hif);first |(focus (cases hif;done)) |((try simp only[JH]at hif);try exact hy_)) |((with_reducible first|apply J22 y8_ za_|apply J23 fol y8_ za_|apply J24);(·rfl);(· exact k106_);(try kernel_rfl);try exact xx_)|fail)
 refine WF.nilFr (φ2:=[(0,.sl 1 2 [] 5 0 P.length (some p1)),(6,.ptr 3 []),(8,.sl 4 4 [] 17 0 0 none),(9,.nat .i64 0)]) 212 17 (y0_ []) (fun h q=>ftsS_stable q) rfl ?_ ?_ ?_
 ·refine⟨⟨_,rfl,fun β _ _=>rfl⟩,⟨_,rfl,fun β _ _=>rfl⟩,⟨_,rfl,fun β h0 hx=>(nilB_cl h0 (show β 4=(none,0) from hx) 17).symm⟩,⟨_,rfl,fun β _ _=>rfl⟩,trivial⟩
 ·simp[xe_,zb_,hp,HB.born]
 simp only[List.cons_append,List.nil_append]
 have hz:Less (.own 212 (.arr 0 17 (y0_ [])) false) (.own 212 (.arr 0 17 (y0_ (List.replicate 0 F0))) false):=.same _
 refine WF.loopAt (fun (i:Nat)=>i≤P.length) (fun (i:Nat)=>[(0,.sl 1 2 [] 5 0 P.length (some p1)),(6,.ptr 3 []),(8,.sl 4 4 [] 17 0 i none),(9,.nat .i64 i)]) (fun (i:Nat)=>[.gone,.gone,.ro (.arr P.length 5 (prS P)),.own 212 (ftS (begT 8)) true,.own 212 (.arr i 17 (y0_ (List.replicate i F0))) false]) (fun (i:Nat)=>P.length - i) 0 (Nat.zero_le _) ?_ ?_ rfl ?_ ?_ rfl ?_
 ·exact k8_
 ·exact k5_
 ·exact k6_
 ·exact k6_
 intro i hi
 by_cases hil:i < P.length
 ·have hrl:(List.replicate i F0).length=i:=by simp
  have hrm:i+1=(List.replicate (i+1) F0).length:=by simp
  repeat' (first|refine Ctl.h ?_ |((with_reducible intro hif);first |(focus (cases hif;done)) |((try simp only[JH]at hif);try exact hy_)) |((with_reducible first|apply J22 y8_ za_|apply J23 fol y8_ za_|apply J24);(·rfl);(· (simp only[push_cast,↓JP,Nat.reduceAdd,Nat.reduceEqDiff,Nat.reduceLT,Nat.reduceMul,Nat.reduceLeDiff,reduceCtorEq,reduceIte,↓JK,↓JF,cRFa,hil,inN,inR,List.all_cons,List.all_nil];rfl));(try kernel_rfl);try exact xx_)|fail)
  refine At.nextPick [0,1,2,3,6] (i+1) ?_ rfl rfl rfl ?_ rfl ?_ ?_ ?_ rfl
  ·omega
  ·(repeat' (first|exact trivial|exact .inl rfl|exact .inr (.same _)|exact .inr .loose|exact .inr (.arr (by assumption))|apply And.intro |(exact .inr (less_catF (List.replicate i F0) F0 hrl (rep_snoc i) hrm rfl (fun β=>by rw[ftS_cl];rfl)))))
  ·exact k6_
  ·exact k48_
  ·exact k6_
 obtain rfl:i=P.length:=by omega
 repeat' (first|refine Ctl.h ?_ |((with_reducible intro hif);first |(focus (cases hif;done)) |((try simp only[JH]at hif);try exact hy_)) |((with_reducible first|apply J22 y8_ za_|apply J23 fol y8_ za_|apply J24);(·rfl);(· (simp only[push_cast,↓JP,Nat.reduceAdd,Nat.reduceEqDiff,Nat.reduceLT,Nat.reduceMul,Nat.reduceLeDiff,reduceCtorEq,reduceIte,↓JK,↓JF,cRFa,hil,inN,inR];rfl));(try kernel_rfl);try exact xx_)|fail)
 have hJ0:JcS P true (List.replicate P.length F0):=⟨by simp,fun _=>jac_init P,fun h=>by cases h⟩
 refine WF.loopAt (fun (x:Bool×List Ft)=>JcS P x.1 x.2) (fun (x:Bool×List Ft)=>[(0,.sl 1 2 [] 5 0 P.length (some p1)),(6,.ptr 3 []),(8,.sl 4 4 [] 17 0 P.length none),(10,.bool x.1)]) (fun (x:Bool×List Ft)=>[.gone,.gone,.ro (.arr P.length 5 (prS P)),.own 212 (ftS (begT 8)) true,.own 212 (.arr P.length 17 (y0_ x.2)) false]) (fun (x:Bool×List Ft)=>bif x.1 then sumF x.2+1 else 0) (true,List.replicate P.length F0) hJ0 ?_ ?_ rfl ?_ ?_ rfl ?_
 ·exact k8_
 ·exact k5_
 ·exact k6_
 ·exact k6_
 rintro⟨c,J⟩ hJ
 dsimp only at hJ
 cases c with
 | false=>
  have hno:=hJ.no rfl
  repeat' (first|refine Ctl.h ?_ |((with_reducible intro hif);first |(focus (cases hif;done)) |((try simp only[JH]at hif);try exact hy_)) |((with_reducible first|apply J22 y8_ za_|apply J23 fol y8_ za_|apply J24);(·rfl);(· exact k107_);(try kernel_rfl);try exact xx_)|fail)
  apply At.endsPick [0,1,2,4] za_ (fn:=Try.f77) (rs:=[.tmp 2,.tmp 3]) Anc.refl hro (lb_ rfl) rfl
  ·exact k3_
  ·exact k39_
  ·rfl
  ·rfl
  ·rfl
  ·(repeat' (first|exact trivial|exact .inl rfl|exact .inr (.same _)|exact .inr .loose|exact .inr (.arr (by assumption))|apply And.intro |(exact .inr (less_ftsB hno))))
  ·rfl
  ·exact k6_
  ·exact k7_
  ·exact fun β=>rfl
  ·exact k6_
 | true=>
  have hI:=hJ.go rfl
  repeat' (first|refine Ctl.h ?_ |((with_reducible intro hif);first |(focus (cases hif;done)) |((try simp only[JH]at hif);try exact hy_)) |((with_reducible first|apply J22 y8_ za_|apply J23 fol y8_ za_|apply J24);(·rfl);(· exact k107_);(try kernel_rfl);try exact xx_)|fail)
  refine WF.nilFr (φ2:=[(0,.sl 1 2 [] 5 0 P.length (some p1)),(6,.ptr 3 []),(8,.sl 4 4 [] 17 0 P.length none),(10,.bool false),(11,.sl 5 5 [] 17 0 0 none),(12,.nat .i64 0)]) 212 17 (y0_ []) (fun h q=>ftsS_stable q) rfl ?_ ?_ ?_
  ·refine⟨⟨_,rfl,fun β _ _=>rfl⟩,⟨_,rfl,fun β _ _=>rfl⟩,⟨_,rfl,fun β _ _=>rfl⟩,⟨_,rfl,fun β _ _=>rfl⟩,⟨_,rfl,fun β h0 hx=>(nilB_cl h0 (show β 5=(none,0) from hx) 17).symm⟩,⟨_,rfl,fun β _ _=>rfl⟩,trivial⟩
  ·simp[xe_,zb_,hp,HB.born]
  simp only[List.cons_append,List.nil_append]
  have hz2:Less (.own 212 (.arr 0 17 (y0_ [])) false) (.own 212 (.arr 0 17 (y0_ ((jacF P J).take 0))) false):=.same _
  refine WF.loopAt (fun (k:Nat)=>k≤P.length) (fun (k:Nat)=>[(0,.sl 1 2 [] 5 0 P.length (some p1)),(6,.ptr 3 []),(8,.sl 4 4 [] 17 0 P.length none),(10,.bool (chgB P J k)),(11,.sl 5 5 [] 17 0 k none),(12,.nat .i64 k)]) (fun (k:Nat)=>[.gone,.gone,.ro (.arr P.length 5 (prS P)),.own 212 (ftS (begT 8)) true,.own 212 (.arr P.length 17 (y0_ J)) false,.own 212 (.arr k 17 (y0_ ((jacF P J).take k))) false]) (fun (k:Nat)=>P.length - k) 0 (Nat.zero_le _) ?_ ?_ rfl ?_ ?_ rfl ?_
  ·exact k8_
  ·exact k5_
  ·exact k6_
  ·exact k6_
  intro k hk
  by_cases hkl:k < P.length
  ·have hTl:((jacF P J).take k).length=k:=by rw[List.length_take,jac_len];omega
   have hUl:k+1=((jacF P J).take (k+1)).length:=by rw[List.length_take,jac_len];omega
   have hnx0:=hx (P.getD k ⟨0,0,0,0,0⟩) (by rw[List.getD_eq_getElem?_getD,List.getElem?_eq_getElem hkl];exact List.getElem_mem _)
   have hb0:k=0→Less (.own 212 (ftS (begT 8)) true) (.own 212 (ftS (colF P J k 0)) true):=fun e=>by rw[show colF P J k 0=begT 8 from if_pos e];exact .same _
   have hb1:¬k=0→Less (.own 212 (.agg [.bool false,.arr 8 2 fun _=>.agg [.bool false,.nat .i64 0]]) true) (.own 212 (ftS (colF P J k 0)) true):=fun e=>by rw[show colF P J k 0=F0 from if_neg e];exact raw_ft (f:=F0) rfl (fun _ _=>rfl) 212 true
   obtain⟨cb,hcb⟩:∃cb,chgB P J k=cb:=⟨_,rfl⟩
   rw[hcb]
   by_cases h0:k=0
   case' pos=>
    have hb:=hb0 h0
    have hq:=eq_true h0
   case' neg=>
    have hb:=hb1 h0
    have hq:=eq_false h0
   all_goals
    clear hb0 hb1 h0
    repeat' (first|refine Ctl.h ?_ |((with_reducible intro hif);first |(focus (cases hif;done)) |((try simp only[JH]at hif);try exact hy_)) |((with_reducible first|apply J22 y8_ za_|apply J23 fol y8_ za_|apply J24);(·rfl);(· (simp only[push_cast,↓JP,Nat.reduceAdd,Nat.reduceEqDiff,Nat.reduceLT,Nat.reduceMul,Nat.reduceLeDiff,reduceCtorEq,reduceIte,↓JK,↓JF,cRFa,hkl,hq,inN,inR];rfl));(try kernel_rfl);try exact xx_)|fail)
    refine WF.loopAt (fun (i:Nat)=>i≤P.length) (fun (i:Nat)=>[(0,.sl 1 2 [] 5 0 P.length (some p1)),(6,.ptr 3 []),(8,.sl 4 4 [] 17 0 P.length none),(10,.bool cb),(11,.sl 5 5 [] 17 0 k none),(12,.nat .i64 k),(13,.ptr 6 []),(14,.nat .i64 i)]) (fun (i:Nat)=>[.gone,.gone,.ro (.arr P.length 5 (prS P)),.own 212 (ftS (begT 8)) true,.own 212 (.arr P.length 17 (y0_ J)) false,.own 212 (.arr k 17 (y0_ ((jacF P J).take k))) false,.own 212 (ftS (colF P J k i)) true]) (fun (i:Nat)=>P.length - i) 0 (Nat.zero_le _) ?_ ?_ rfl ?_ ?_ rfl ?_
    ·exact k8_
    ·exact k5_
    ·exact k6_
    ·exact k6_
    intro i hi
    by_cases hil:i < P.length
    ·have hR:=right_at hx hc hil
     have hgB:=hI.bd i
     have e1:∀g,colF P J k (i+1)=g→True:=fun _ _=>trivial
     clear e1
     have eC:colF P J k (i+1)=if (zs_ J i).reached=true∧goesR (P.getD i ⟨0,0,0,0,0⟩) i k (zs_ J i)=true then joinT (colF P J k i) (yn_ (P.getD i ⟨0,0,0,0,0⟩) (zs_ J i))else colF P J k i:=rfl
     obtain⟨x,hX⟩:∃x,P.getD i ⟨0,0,0,0,0⟩=x:=⟨_,rfl⟩
     obtain⟨f,hF⟩:∃f,zs_ J i=f:=⟨_,rfl⟩
     obtain⟨C,hC⟩:∃C,colF P J k i=C:=⟨_,rfl⟩
     rw[hX]at hR
     rw[hX,hF,hC]at eC
     rw[hF]at hgB
     rw[hC]
     have hok:=hR.ok
     have ha8:=hR.a
     have hb8:=hR.b
     have hc8:=hR.c
     cases hr:f.reached
     ·have l6:Less (.own 212 (ftS C) true) (.own 212 (ftS (colF P J k (i+1))) true):=by rw[eC,if_neg (by rw[hr];simp)];exact .same _
      repeat' (first|refine Ctl.h ?_ |((with_reducible intro hif);first |(focus (cases hif;done)) |((try simp only[JH]at hif);try exact hy_)) |((with_reducible first|apply J22 y8_ za_|apply J23 fol y8_ za_|apply J24);(·rfl);(· (simp only[push_cast,↓JP,Nat.reduceAdd,Nat.reduceEqDiff,Nat.reduceLT,Nat.reduceMul,Nat.reduceLeDiff,reduceCtorEq,reduceIte,↓JK,↓JF,cRFa,sRGo17,sRAft,sRJoin,y9_,yt_,ys_,y0_,hX,hF,hr,hil,Int.toNat_natCast,inN,inR];rfl));(try kernel_rfl);try exact xb_)|fail)
      refine At.next (i+1) ?_ ?_ ?_ rfl ?_ ?_ rfl
      ·omega
      ·exact k8_
      ·exact k5_
      ·exact k6_
      ·exact k6_
     ·by_cases hg:goesR x i k f=true
      ·have l6:Less (.own 212 (ftS (joinT C (yn_ x f))) true) (.own 212 (ftS (colF P J k (i+1))) true):=by rw[eC,if_pos ⟨hr,hg⟩];exact .same _
       repeat' (first|refine Ctl.h ?_ |((with_reducible intro hif);first |(focus (cases hif;done)) |((try simp only[JH]at hif);try exact hy_)) |((with_reducible first|apply J22 y8_ za_|apply J23 fol y8_ za_|apply J24);(·rfl);(· exact k109_);(try kernel_rfl);try exact xb_)|fail)
       refine At.next (i+1) ?_ ?_ ?_ rfl ?_ ?_ rfl
       ·omega
       ·exact k8_
       ·exact k5_
       ·exact k6_
       ·exact k6_
      ·have l6:Less (.own 212 (ftS C) true) (.own 212 (ftS (colF P J k (i+1))) true):=by rw[eC,if_neg (fun h=>hg h.2)];exact .same _
       repeat' (first|refine Ctl.h ?_ |((with_reducible intro hif);first |(focus (cases hif;done)) |((try simp only[JH]at hif);try exact hy_)) |((with_reducible first|apply J22 y8_ za_|apply J23 fol y8_ za_|apply J24);(·rfl);(· exact k109_);(try kernel_rfl);try exact xb_)|fail)
       refine At.next (i+1) ?_ ?_ ?_ rfl ?_ ?_ rfl
       ·omega
       ·exact k8_
       ·exact k5_
       ·exact k6_
       ·exact k6_
    ·obtain rfl:i=P.length:=by omega
     have hch:chgB P J (k+1)=(cb || !ftB (colF P J k P.length) (zs_ J k)):=by
      show (chgB P J k || !ftB (zs_ (jacF P J) k) (zs_ J k))=_
      rw[hcb,jac_get hkl]
     have hjt:=jac_take (J:=J) hkl
     obtain⟨C,hC⟩:∃C,colF P J k P.length=C:=⟨_,rfl⟩
     obtain⟨f,hF⟩:∃f,zs_ J k=f:=⟨_,rfl⟩
     rw[hC]at hjt hch ⊢
     rw[hF]at hch
     cases cb
     all_goals
      repeat' (first|refine Ctl.h ?_ |((with_reducible intro hif);first |(focus (cases hif;done)) |((try simp only[JH]at hif);try exact hy_)) |((with_reducible first|apply J22 y8_ za_|apply J23 fol y8_ za_|apply J24);(·rfl);(· (simp only[push_cast,↓JP,Nat.reduceAdd,Nat.reduceEqDiff,Nat.reduceLT,Nat.reduceMul,Nat.reduceLeDiff,reduceCtorEq,reduceIte,↓JK,↓JF,cRFa,y0_,hF,hkl,hil,inN,inR,List.all_cons,List.all_nil];rfl));(try kernel_rfl);try exact xb_)|fail)
      refine At.nextPick [0,1,2,3,4,8] (k+1) ?_ rfl rfl rfl ?_ rfl ?_ ?_ ?_ rfl
      ·omega
      ·(repeat' (first|exact trivial|exact .inl rfl|exact .inr (.same _)|exact .inr .loose|exact .inr (.arr (by assumption))|apply And.intro |(exact .inr (less_catF ((jacF P J).take k) C hTl hjt hUl rfl (fun β=>rfl)))))
      ·exact k6_
      ·(repeat' (first|exact trivial|exact⟨_,rfl,fun β=>rfl⟩|apply And.intro |(exact⟨_,rfl,fun β=>by rw[hch];rfl⟩)))
      ·exact k6_
  ·obtain rfl:k=P.length:=by omega
   have hT:(jacF P J).take P.length=jacF P J:=List.take_of_length_le (by rw[jac_len];exact Nat.le_refl _)
   have hS:JcS P (chgB P J P.length) (jacF P J):=⟨jac_len P J,fun _=>jac_step hx hc hI,fun h=>jac_end hx hc hI (chgB_no h)⟩
   have hM:(bif chgB P J P.length then sumF (jacF P J)+1 else 0) < sumF J+1:=by
    cases h:chgB P J P.length with
    | false=>exact Nat.succ_pos _
    | true=>
     obtain⟨k,hk,e⟩:=chgB_yes h
     have:=jac_lt hx hc hI hk e
     show sumF (jacF P J)+1 < sumF J+1
     omega
   repeat' (first|refine Ctl.h ?_ |((with_reducible intro hif);first |(focus (cases hif;done)) |((try simp only[JH]at hif);try exact hy_)) |((with_reducible first|apply J22 y8_ za_|apply J23 fol y8_ za_|apply J24);(·rfl);(· (simp only[push_cast,↓JP,Nat.reduceAdd,Nat.reduceEqDiff,Nat.reduceLT,Nat.reduceMul,Nat.reduceLeDiff,reduceCtorEq,reduceIte,↓JK,↓JF,cRFa,hkl,inN,inR];rfl));(try kernel_rfl);try exact xx_)|fail)
   refine At.nextPick [0,1,2,3,5] ((chgB P J P.length,jacF P J):Bool×List Ft) ?_ rfl rfl rfl ?_ rfl ?_ ?_ ?_ rfl
   ·exact⟨hS,hM⟩
   ·(repeat' (first|exact trivial|exact .inl rfl|exact .inr (.same _)|exact .inr .loose|exact .inr (.arr (by assumption))|apply And.intro |(rw[hT];exact .inr (.same _))))
   ·exact k6_
   ·exact k48_
   ·exact k6_
def sRFactR:y4_:=fun args h m=>match args with
 | [v1]=>match srcV h 5 (.tup []) v1 with
  | some (c1,n1,f1,r1)=>some (c1∧(∀q,q < n1→xt_ (f1 q)=true)∧((∀x∈(ls zd_ n1 f1),x.ok))∧((zu_ (ls zd_ n1 f1)).2=0),.tup [.sl m m [] 17 0 (ls zd_ n1 f1).length none,.int .i64 0],r1,[(m,.own 212 (.arr (ls zd_ n1 f1).length 17 (y0_ (zr_ (ls zd_ n1 f1)))) false)])
  | _=>none
 | _=>none
theorem sRFactR_ok:zm_ Try.prog 77 sRFactR:=by
 refine⟨zg_ (by kernel_rfl),fun args h m c v rd wr hs hm hc w0 M β h' w R hrd hwr hst=>?_⟩
 unfold sRFactR at hs
 split at hs
 ·rename_i v1
  split at hs
  ·rename_i c1 n1 f1 r1 a1
   simp only[Option.some.injEq,Prod.mk.injEq]at hs
   obtain⟨rfl,rfl,rfl,rfl⟩:=hs
   obtain⟨k1,g1,y1,y2⟩:=hc
   obtain⟨A1,p1,d1,e1,t1⟩:=zp_ R a1 k1 (fun i hi=>hrd i hi) (by omega)
   refine yb_ (views:=[⟨5,(ls zd_ n1 f1).length,prS (ls zd_ n1 f1),A1,p1⟩]) (rfacts_lit (ls zd_ n1 f1) p1 y1 y2) ?_ R hm hwr ?_ ?_ ?_
   ·exact d20_
   ·exact d21_
   ·exact k6_
   ·exact k6_
  ·cases hs
 ·cases hs
def sFactsI:y4_:=fun args h m=>match args with
 | [v1]=>match srcV h 5 (.tup []) v1 with
  | some (c1,n1,f1,r1)=>some (c1∧(∀q,q < n1→xt_ (f1 q)=true)∧((∀x∈(ls zd_ n1 f1),x.ok))∧((zu_ (ls zd_ n1 f1)).2=0),.sl m m [] 17 0 (ls zd_ n1 f1).length none,r1,[(m,.own 44 (.arr (ls zd_ n1 f1).length 17 (y0_ (zr_ (ls zd_ n1 f1)))) false)])
  | _=>none
 | _=>none
theorem sFactsI_ok:zm_ Try.prog 56 sFactsI:=by
 refine⟨zg_ (by kernel_rfl),fun args h m c v rd wr hs hm hc w0 M β h' w R hrd hwr hst=>?_⟩
 unfold sFactsI at hs
 split at hs
 ·rename_i v1
  split at hs
  ·rename_i c1 n1 f1 r1 a1
   simp only[Option.some.injEq,Prod.mk.injEq]at hs
   obtain⟨rfl,rfl,rfl,rfl⟩:=hs
   obtain⟨k1,g1,y1,y2⟩:=hc
   obtain⟨A1,p1,d1,e1,t1⟩:=zp_ R a1 k1 (fun i hi=>hrd i hi) (by omega)
   refine yb_ (views:=[⟨5,(ls zd_ n1 f1).length,prS (ls zd_ n1 f1),A1,p1⟩]) (facts_lit (ls zd_ n1 f1) p1 y1 y2) ?_ R hm hwr ?_ ?_ ?_
   ·exact d20_
   ·exact d21_
   ·exact k6_
   ·exact k6_
  ·cases hs
 ·cases hs
def cWh:FuncId→Option y4_:=xz_ [(56,sFactsI),(57,sFits),(58,sWhyL),(55,sCheck)]
theorem cWh_ok:∀f S,cWh f=some S→zm_ Try.prog f S:=z0_ ⟨sFactsI_ok,sFits_ok,sWhyL_ok,sCheck_ok,trivial⟩
theorem Facts_lit (xs:List Ins)(p1:Nat)(hx:∀x∈xs,x.ok)(hc:(zu_ xs).2=0):zz_ Try.prog 21 [.sl 1 2 [] 5 0 xs.length (some p1)] [.gone,.gone,.ro (.arr xs.length 5 (prS xs))] (.tup [.sl 3 3 [] 17 0 xs.length none,.int .i64 0]) [.gone,.gone,.gone,.own 44 (.arr xs.length 17 (y0_ (zr_ xs))) false]:=by
 refine zf_ (fn:=Try.f21) 3 15 0 rfl rfl rfl rfl rfl u3_ rfl fun w0 M E hro=>?_
 have hl:xs.length≤256:=(yr_ hc).2.1
 repeat' (first|refine Ctl.h ?_ |((with_reducible intro hif);first |(focus (cases hif;done)) |((try simp only[JH]at hif);try exact hy_)) |((with_reducible first|apply J22 cWh_ok za_|apply J23 fol cWh_ok za_|apply J24);(·rfl);(· (simp only[push_cast,↓JP,Nat.reduceAdd,Nat.reduceEqDiff,Nat.reduceLT,Nat.reduceMul,Nat.reduceLeDiff,reduceCtorEq,reduceIte,↓JK,↓JF,cWh,sFactsI,sCheck,y9_,yt_,ys_,hc];rfl));(try kernel_rfl);try exact k9_)|fail)
 apply At.endsRet za_ (fn:=Try.f21) (rs:=[.tmp 2,.tmp 3]) Anc.refl hro (lb_ rfl) rfl
 ·exact k3_
 ·exact k4_
 ·exact k5_
 ·rfl
 ·exact k6_
 ·exact k7_
 ·exact fun β=>rfl
 ·exact k6_
def sFactsR:y4_:=fun args h m=>match args with
 | [v1]=>match srcV h 5 (.tup []) v1 with
  | some (c1,n1,f1,r1)=>some (c1∧(∀q,q < n1→xt_ (f1 q)=true)∧((∀x∈(ls zd_ n1 f1),x.ok))∧((zu_ (ls zd_ n1 f1)).2=0),.tup [.sl m m [] 17 0 (ls zd_ n1 f1).length none,.int .i64 0],r1,[(m,.own 44 (.arr (ls zd_ n1 f1).length 17 (y0_ (zr_ (ls zd_ n1 f1)))) false)])
  | _=>none
 | _=>none
theorem sFactsR_ok:zm_ Try.prog 21 sFactsR:=by
 refine⟨zg_ (by kernel_rfl),fun args h m c v rd wr hs hm hc w0 M β h' w R hrd hwr hst=>?_⟩
 unfold sFactsR at hs
 split at hs
 ·rename_i v1
  split at hs
  ·rename_i c1 n1 f1 r1 a1
   simp only[Option.some.injEq,Prod.mk.injEq]at hs
   obtain⟨rfl,rfl,rfl,rfl⟩:=hs
   obtain⟨k1,g1,y1,y2⟩:=hc
   obtain⟨A1,p1,d1,e1,t1⟩:=zp_ R a1 k1 (fun i hi=>hrd i hi) (by omega)
   refine yb_ (views:=[⟨5,(ls zd_ n1 f1).length,prS (ls zd_ n1 f1),A1,p1⟩]) (Facts_lit (ls zd_ n1 f1) p1 y1 y2) ?_ R hm hwr ?_ ?_ ?_
   ·exact d20_
   ·exact d21_
   ·exact k6_
   ·exact k6_
  ·cases hs
 ·cases hs
end Go.Proofs.Ytmljmabbopkpiaa.Vm
end
end

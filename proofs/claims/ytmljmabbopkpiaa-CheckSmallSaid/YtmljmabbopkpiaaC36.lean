import Derived.Test.YtmljmabbopkpiaaC1
import Derived.Test.YtmljmabbopkpiaaC32
import Derived.Test.YtmljmabbopkpiaaC34
import Derived.Test.YtmljmabbopkpiaaC35
set_option linter.unusedSimpArgs false
set_option linter.unusedVariables false
set_option maxRecDepth 100000
set_option maxHeartbeats 4000000
section
namespace Go.Proofs.Ytmljmabbopkpiaa.Vm
open Go.RowKit
attribute [local push_cast] eqB eqBL allB prS sndsS zw_ nav_ins xs_ xr_ xq_ xp_ xo_ nav_snd xn_ xm_ xl_ yo_ yi_ yv_ yq_ yz_ yy_ iOf nav_k nav_k0 nav_k1 nav_ka nav_kai nav_ft nav_ft0 nav_ft1 isKn_kS knOf_kS isKa_kaS kaOf_kaS isFt_ftS ftOf_ftS setp_ka setp_ftk setp_ftr setp_fti evm_ins evm_snd evm_k evm_ka evm_ft
def ftCells (f:Ft):List Value:=.bool f.reached::kcsL f.regs
theorem isFt_cl {β : Env}{v:SV}(h:isFt v=true):v.cl β = ftCells (ftOf v):=by
 unfold isFt at h
 split at h
 ·rename_i b x
  rw[cl_agg,yk_,yk_,clL_nil,kaOf_cl h,List.append_nil]
  rfl
 ·cases h
def ftsV (l:List Ft):List Value:=l.flatMap ftCells
theorem elems_ft {β : Env}{n:Nat}{f:Nat→SV}(hf:∀q,q < n→isFt (f q)=true):zx_ β 17 n f=ftsV (ls ftOf n f):=elems_ls isFt_cl (fun _=>rfl) hf
theorem ls_ftsS (l:List Ft):ls ftOf l.length (y0_ l)=l:=ls_of ftOf_ftS l _
theorem elems_ftsS {β : Env}(l:List Ft):zx_ β 17 l.length (y0_ l)=ftsV l:=by
 rw[elems_ft (n:=l.length) (f:=y0_ l) fun q _=>isFt_ftS _]
 congr 1
 exact ls_ftsS l
theorem viewFt {w:World}{β : Env}{A:Option Addr}{n cap:Nat}{f:Nat→SV}(hr:xi_ w w.heap.size 17 A n (zx_ β 17 n f))(hn:n≤cap)(hf:∀q,q < n→isFt (f q)=true):(View.mk 17 (ls ftOf n f).length (y0_ (ls ftOf n f)) A cap).Ok w:=
 ⟨fun β'=>by rw[elems_ftsS,zc_];rwa [elems_ft hf]at hr,by rw[zc_];exact hn,fun h q=>ftsS_stable q,Nat.succ_pos _⟩
theorem facts_lit5 (F:List Ft)(p1 p2:Nat)(hn:F.length≤1000000):zz_ Try.prog 82 [.sl 1 2 [] 17 0 F.length (some p1),.sl 3 4 [] 17 0 F.length (some p2)] [.gone,.gone,.ro (.arr F.length 17 (y0_ F)),.gone,.ro (.arr F.length 17 (y0_ F))] (.bool true) [.gone]:=by
 refine zf_ (fn:=Try.f82) 5 46 0 rfl rfl rfl rfl rfl u8_ rfl fun w0 M E hro=>?_
 repeat' (first|refine Ctl.h ?_ |((with_reducible intro hif);first |(focus (cases hif;done)) |((try simp only[JH]at hif);try exact hy_)) |((with_reducible first|apply J22 zl_ za_|apply J23 fol zl_ za_|apply J24);(·rfl);(· (simp only[push_cast,↓JP,Nat.reduceAdd,Nat.reduceEqDiff,Nat.reduceLT,Nat.reduceMul,Nat.reduceLeDiff,reduceCtorEq,reduceIte,↓JK,↓JF,inN,inR];rfl));(try kernel_rfl);try exact xb_)|fail)
 refine WF.loopAt (fun (k:Nat)=>k≤F.length) (fun (k:Nat)=>[(1,.sl 3 4 [] 17 0 F.length (some p2)),(14,.sl 1 2 [] 17 0 F.length (some p1)),(15,.nat .i64 F.length),(16,.nat .i64 k)]) (fun (k:Nat)=>[.gone,.gone,.ro (.arr F.length 17 (y0_ F)),.gone,.ro (.arr F.length 17 (y0_ F))]) (fun (k:Nat)=>F.length - k) 0 (Nat.zero_le _) ?_ ?_ rfl ?_ ?_ rfl ?_
 ·exact k8_
 ·exact k5_
 ·exact xa_
 ·exact xa_
 intro k hk
 by_cases hkl:k < F.length
 ·obtain⟨f,hF⟩:∃f,zs_ F k=f:=⟨_,rfl⟩
  have hbb:∀b:Bool,(b != b)=false:=fun b=>by cases b<;>rfl
  have hne:∀b:Bool,decide (b=b)=true:=fun b=>by simp
  repeat' (first|refine Ctl.h ?_ |((with_reducible intro hif);first |(focus (cases hif;done)) |((try simp only[JH]at hif);try exact hy_)) |((with_reducible first|apply J22 zl_ za_|apply J23 fol zl_ za_|apply J24);(·rfl);(· (simp only[push_cast,↓JP,Nat.reduceAdd,Nat.reduceEqDiff,Nat.reduceLT,Nat.reduceMul,Nat.reduceLeDiff,reduceCtorEq,reduceIte,↓JK,↓JF,y0_,hF,hkl,hbb,inN,inR];rfl));(try kernel_rfl);try exact xb_)|fail)
  refine WF.loopAt (fun (r:Nat)=>r≤8) (fun (r:Nat)=>[(1,.sl 3 4 [] 17 0 F.length (some p2)),(5,.nat .i64 k),(14,.sl 1 2 [] 17 0 F.length (some p1)),(15,.nat .i64 F.length),(16,.nat .i64 k),(30,kaS f.regs),(31,.nat .i64 r)]) (fun (r:Nat)=>[.gone,.gone,.ro (.arr F.length 17 (y0_ F)),.gone,.ro (.arr F.length 17 (y0_ F))]) (fun (r:Nat)=>8 - r) 0 (Nat.zero_le _) ?_ ?_ rfl ?_ ?_ rfl ?_
  ·exact k8_
  ·exact k5_
  ·exact xa_
  ·exact xa_
  intro r hr
  by_cases hr8:r < 8
  ·repeat' (first|refine Ctl.h ?_ |((with_reducible intro hif);first |(focus (cases hif;done)) |((try simp only[JH]at hif);try exact hy_)) |((with_reducible first|apply J22 zl_ za_|apply J23 fol zl_ za_|apply J24);(·rfl);(· exact k146_);(try kernel_rfl);try exact xb_)|fail)
   refine At.nextPick [0,1,2,3,4] (r+1) ?_ rfl rfl rfl ?_ rfl ?_ ?_ ?_ rfl
   ·omega
   ·exact k53_
   ·exact xa_
   ·exact k48_
   ·exact xa_
  ·obtain rfl:r=8:=by omega
   repeat' (first|refine Ctl.h ?_ |((with_reducible intro hif);first |(focus (cases hif;done)) |((try simp only[JH]at hif);try exact hy_)) |((with_reducible first|apply J22 zl_ za_|apply J23 fol zl_ za_|apply J24);(·rfl);(· exact k146_);(try kernel_rfl);try exact xb_)|fail)
   refine At.nextPick [0,1,2,3,4] (k+1) ?_ rfl rfl rfl ?_ rfl ?_ ?_ ?_ rfl
   ·omega
   ·exact k53_
   ·exact xa_
   ·exact k48_
   ·exact xa_
 ·obtain rfl:k=F.length:=by omega
  repeat' (first|refine Ctl.h ?_ |((with_reducible intro hif);first |(focus (cases hif;done)) |((try simp only[JH]at hif);try exact hy_)) |((with_reducible first|apply J22 zl_ za_|apply J23 fol zl_ za_|apply J24);(·rfl);(· (simp only[push_cast,↓JP,Nat.reduceAdd,Nat.reduceEqDiff,Nat.reduceLT,Nat.reduceMul,Nat.reduceLeDiff,reduceCtorEq,reduceIte,↓JK,↓JF,hkl,inN,inR];rfl));(try kernel_rfl);try exact xb_)|fail)
  apply At.endsRet za_ (fn:=Try.f82) (rs:=[.tmp 4]) Anc.refl hro (lb_ rfl) rfl
  ·exact k3_
  ·exact k4_
  ·exact k5_
  ·rfl
  ·exact xa_
  ·exact k7_
  ·exact fun β=>rfl
  ·exact xa_
theorem facts_lit5' (F G:List Ft)(p1 p2:Nat)(h:G=F)(hn:F.length≤1000000):zz_ Try.prog 82 [.sl 1 2 [] 17 0 F.length (some p1),.sl 3 4 [] 17 0 G.length (some p2)] [.gone,.gone,.ro (.arr F.length 17 (y0_ F)),.gone,.ro (.arr G.length 17 (y0_ G))] (.bool true) [.gone]:=by
 subst h;exact facts_lit5 _ p1 p2 hn
def sFa17:y4_:=fun args h m=>match args with
 | [v1,v2]=>match srcV h 17 (.tup []) v1,srcV h 17 (.tup []) v2 with
  | some (c1,n1,f1,r1),some (c2,n2,f2,r2)=>some (c1∧c2∧(∀q,q < n1→isFt (f1 q)=true)∧(∀q,q < n2→isFt (f2 q)=true)∧((ls ftOf n2 f2)=(ls ftOf n1 f1))∧(n1≤1000000),.bool true,r1++r2,[])
  | _,_=>none
 | _=>none
theorem sFa17_ok:zm_ Try.prog 82 sFa17:=by
 refine⟨zg_ (by kernel_rfl),fun args h m c v rd wr hs hm hc w0 M β h' w R hrd hwr hst=>?_⟩
 unfold sFa17 at hs
 split at hs
 ·rename_i v1 v2
  split at hs
  ·rename_i c1 n1 f1 r1 c2 n2 f2 r2 a1 a2
   simp only[Option.some.injEq,Prod.mk.injEq]at hs
   obtain⟨rfl,rfl,rfl,rfl⟩:=hs
   obtain⟨k1,k2,g1,g2,y1,y2⟩:=hc
   obtain⟨A1,p1,d1,e1,t1⟩:=zp_ R a1 k1 (fun i hi=>hrd i (List.mem_append_left _ hi)) (by omega)
   obtain⟨A2,p2,d2,e2,t2⟩:=zp_ R a2 k2 (fun i hi=>hrd i (List.mem_append_right _ hi)) (by omega)
   refine yb_ (views:=[⟨17,(ls ftOf n1 f1).length,y0_ (ls ftOf n1 f1),A1,p1⟩,⟨17,(ls ftOf n2 f2).length,y0_ (ls ftOf n2 f2),A2,p2⟩]) (facts_lit5' (ls ftOf n1 f1) (ls ftOf n2 f2) p1 p2 y1 (by rw[zc_];exact y2)) ?_ R hm hwr ?_ ?_ ?_
   ·intro x hx
    simp only[List.mem_cons,List.not_mem_nil,or_false]at hx
    rcases hx with rfl|rfl
    ·exact viewFt t1 e1 g1
    ·exact viewFt t2 e2 g2
   ·exact d25_
   ·exact xa_
   ·exact xa_
  ·cases hs
 ·cases hs
def cTG:FuncId→Option y4_:=xz_ [(32,sClI),(67,sTh14),(22,sWhy17),(79,sRWy),(82,sFa17),(53,sEqZ),(71,sEqIns),(21,sFactsR),(34,sDoomU),(35,sChk17),(20,sLeast),(77,sRFactR),(78,sRDoom),(80,sRChk),(81,sRLeast)]
theorem cTG_ok:∀f S,cTG f=some S→zm_ Try.prog f S:=z0_ ⟨sClI_ok,sTh14_ok,sWhy17_ok,sRWy_ok,sFa17_ok,sEqZ_ok,sEqIns_ok,sFactsR_ok,sDoomU_ok,sChk17_ok,sLeast_ok,sRFactR_ok,sRDoom_ok,sRChk_ok,sRLeast_ok,trivial⟩
def cTL:FuncId→Option y4_:=xz_ [(32,sClI),(67,sTh14),(22,sWhy17),(79,sRWy),(82,sFa17),(53,sEqZ),(71,sEqIns),(21,sFactsR),(34,sDoomB),(35,sChkB),(20,sLeast),(77,sRFactR),(78,sRDoomB),(80,sRChkB),(81,sRLeast)]
theorem cTL_ok:∀f S,cTL f=some S→zm_ Try.prog f S:=z0_ ⟨sClI_ok,sTh14_ok,sWhy17_ok,sRWy_ok,sFa17_ok,sEqZ_ok,sEqIns_ok,sFactsR_ok,sDoomB_ok,sChkB_ok,sLeast_ok,sRFactR_ok,sRDoomB_ok,sRChkB_ok,sRLeast_ok,trivial⟩
def cTB:FuncId→Option y4_:=xz_ [(32,sClI),(67,sTh14),(22,sWhy17),(79,sRWy),(82,sFa17),(53,sEqZ),(71,sEqIns),(21,sFactsB),(34,sDoomB),(35,sChkB),(20,sLeastB),(77,sRFactB),(78,sRDoomB),(80,sRChkB),(81,sRLeastB)]
theorem cTB_ok:∀f S,cTB f=some S→zm_ Try.prog f S:=z0_ ⟨sClI_ok,sTh14_ok,sWhy17_ok,sRWy_ok,sFa17_ok,sEqZ_ok,sEqIns_ok,sFactsB_ok,sDoomB_ok,sChkB_ok,sLeastB_ok,sRFactB_ok,sRDoomB_ok,sRChkB_ok,sRLeastB_ok,trivial⟩
theorem less5 (t:Nat)(b:Bool)(v w x y z:Int):Less (.own t (.arr 5 1 fun i=>[SV.int .i64 v,.int .i64 w,.int .i64 x,.int .i64 y,.int .i64 z].getD i (.nat .i64 0)) b) (.own t (.arr 5 1 (zw_ [v,w,x,y,z])) b):=
 .val (fun β=>arrCl fun q hq=>by rcases q with _|_|_|_|_|q<;>first|rfl |(exfalso;omega)) (fun n1 k1 f1 e=>by injection e with e1 e2 e3;subst e1 e2;exact⟨_,rfl⟩) (fun n1 k1 f1 e=>by injection e with e1 e2 e3;subst e1 e2;exact⟨_,rfl⟩)
theorem eqL_self17 {α : Type}[DecidableEq α](l:List α):eqL l l=true:=eqL_true rfl
theorem tellsG_lit (xs:List Ins)(p1:Nat)(c p l i:Int)(hx:∀x∈xs,x.ok)(hn:xs.length≤45)(hc:(zu_ xs).2=0)(hl:limB c p l=true):zz_ Try.prog 33 [.sl 1 2 [] 5 0 xs.length (some p1),.agg [.int .i64 c,.int .i64 p,.int .i64 l],.int .i64 i] [.gone,.gone,.ro (.arr xs.length 5 (prS xs))] (.bool true) [.gone]:=by
 obtain⟨F,hF⟩:∃F,F=zr_ xs:=⟨_,rfl⟩
 obtain⟨⟨wa,we⟩,hW⟩:∃W,whyR xs c p l i=W:=⟨_,rfl⟩
 have h45:¬(45:Int) < xs.length:=by omega
 have hfl:F.length=xs.length:=by rw[hF];exact(facts_FI' hx hc).len
 have hf:fitE xs c p l=0:=by unfold fitE;rw[if_pos hc,if_pos hl]
 obtain⟨⟨ka,ke⟩,hK⟩:∃K,chkR xs F c p l=K:=⟨_,rfl⟩
 obtain⟨D,hD⟩:∃D,yw_ xs F c p l xs.length=D:=⟨_,rfl⟩
 have hdl:=doom_len xs F c p l xs.length
 rw[hD]at hdl
 refine zf_ (fn:=Try.f33) 3 150 0 rfl rfl rfl rfl rfl u8_ rfl fun w0 M E hro=>?_
 repeat' (first|refine Ctl.h ?_ |((with_reducible intro hif);first |(focus (cases hif;done)) |((try simp only[JH]at hif);try exact hy_)) |((with_reducible first|apply J22 cTG_ok za_|apply J23 fol cTG_ok za_|apply J24);(·rfl);(· exact k147_);(try kernel_rfl);try exact xb_)|fail)
 have l5:=less5 32 true 0 0 we ke 0
 refine WF.loopAt (fun (j:Nat)=>j≤5) (fun (j:Nat)=>[(0,.sl 1 2 [] 5 0 xs.length (some p1)),(7,.sl 4 4 [] 5 0 xs.length none),(10,.sl 7 7 [] 17 0 xs.length none),(12,.sl 8 8 [] 1 0 D.length none),(14,.int .i64 wa),(16,.int .i64 ka),(18,.ptr 9 []),(20,.sl 10 10 [] 17 0 xs.length none),(22,.sl 11 11 [] 1 0 D.length none),(24,.int .i64 wa),(26,.int .i64 ka),(28,.ptr 12 []),(21,.int .i64 0),(23,.int .i64 0),(25,.int .i64 we),(27,.int .i64 ke),(29,.int .i64 0),(103,.sl 13 13 [] 1 0 5 none),(104,.nat .i64 5),(105,.nat .i64 j)]) (fun (j:Nat)=>[.gone,.gone,.ro (.arr xs.length 5 (prS xs)),.own 31 (.agg [.int .i64 c,.int .i64 p,.int .i64 l]) true,.own 28 (.arr xs.length 5 (prS xs)) false,prT xs,.own 153 (.agg [.int .i64 c,.int .i64 p,.int .i64 l]) true,.own 44 (.arr xs.length 17 (y0_ F)) false,.own 3 (.arr D.length 1 (zw_ D)) false,.own 31 (.agg [.int .i64 (zq_ xs F xs.length).1,.int .i64 (zq_ xs F xs.length).2,.int .i64 1]) true,.own 212 (.arr xs.length 17 (y0_ F)) false,.own 3 (.arr D.length 1 (zw_ D)) false,.own 153 (.agg [.int .i64 (zq_ xs F xs.length).1,.int .i64 (zq_ xs F xs.length).2,.int .i64 1]) true,.own 32 (.arr 5 1 (zw_ [0,0,we,ke,0])) true]) (fun (j:Nat)=>5 - j) 0 (Nat.zero_le _) ?_ ?_ rfl ?_ ?_ rfl ?_
 ·exact k8_
 ·exact k5_
 ·exact xa_
 ·exact xa_
 intro j hj
 by_cases hj5:j < 5
 ·rcases j with _|_|_|_|_|j
  all_goals try (exfalso;omega)
  ·repeat' (first|refine Ctl.h ?_ |((with_reducible intro hif);first |(focus (cases hif;done)) |((try simp only[JH]at hif);try exact hy_)) |((with_reducible first|apply J22 cTG_ok za_|apply J23 fol cTG_ok za_|apply J24);(·rfl);(· exact k148_);(try kernel_rfl);try exact xb_)|fail)
   refine At.nextPick [0,1,2,3,4,5,6,7,8,9,10,11,12,13] 1 ?_ rfl rfl rfl ?_ rfl ?_ ?_ ?_ rfl
   ·omega
   ·exact k53_
   ·exact xa_
   ·exact k48_
   ·exact xa_
  ·repeat' (first|refine Ctl.h ?_ |((with_reducible intro hif);first |(focus (cases hif;done)) |((try simp only[JH]at hif);try exact hy_)) |((with_reducible first|apply J22 cTG_ok za_|apply J23 fol cTG_ok za_|apply J24);(·rfl);(· exact k148_);(try kernel_rfl);try exact xb_)|fail)
   refine At.nextPick [0,1,2,3,4,5,6,7,8,9,10,11,12,13] 2 ?_ rfl rfl rfl ?_ rfl ?_ ?_ ?_ rfl
   ·omega
   ·exact k53_
   ·exact xa_
   ·exact k48_
   ·exact xa_
  ·repeat' (first|refine Ctl.h ?_ |((with_reducible intro hif);first |(focus (cases hif;done)) |((try simp only[JH]at hif);try exact hy_)) |((with_reducible first|apply J22 cTG_ok za_|apply J23 fol cTG_ok za_|apply J24);(·rfl);(· exact k148_);(try kernel_rfl);try exact xb_)|fail)
   refine At.nextPick [0,1,2,3,4,5,6,7,8,9,10,11,12,13] 3 ?_ rfl rfl rfl ?_ rfl ?_ ?_ ?_ rfl
   ·omega
   ·exact k53_
   ·exact xa_
   ·exact k48_
   ·exact xa_
  ·repeat' (first|refine Ctl.h ?_ |((with_reducible intro hif);first |(focus (cases hif;done)) |((try simp only[JH]at hif);try exact hy_)) |((with_reducible first|apply J22 cTG_ok za_|apply J23 fol cTG_ok za_|apply J24);(·rfl);(· exact k148_);(try kernel_rfl);try exact xb_)|fail)
   refine At.nextPick [0,1,2,3,4,5,6,7,8,9,10,11,12,13] 4 ?_ rfl rfl rfl ?_ rfl ?_ ?_ ?_ rfl
   ·omega
   ·exact k53_
   ·exact xa_
   ·exact k48_
   ·exact xa_
  ·repeat' (first|refine Ctl.h ?_ |((with_reducible intro hif);first |(focus (cases hif;done)) |((try simp only[JH]at hif);try exact hy_)) |((with_reducible first|apply J22 cTG_ok za_|apply J23 fol cTG_ok za_|apply J24);(·rfl);(· exact k148_);(try kernel_rfl);try exact xb_)|fail)
   refine At.nextPick [0,1,2,3,4,5,6,7,8,9,10,11,12,13] 5 ?_ rfl rfl rfl ?_ rfl ?_ ?_ ?_ rfl
   ·omega
   ·exact k53_
   ·exact xa_
   ·exact k48_
   ·exact xa_
 ·obtain rfl:j=5:=by omega
  repeat' (first|refine Ctl.h ?_ |((with_reducible intro hif);first |(focus (cases hif;done)) |((try simp only[JH]at hif);try exact hy_)) |((with_reducible first|apply J22 cTG_ok za_|apply J23 fol cTG_ok za_|apply J24);(·rfl);(· exact k147_);(try kernel_rfl);try exact xb_)|fail)
  apply At.endsRet za_ (fn:=Try.f33) (rs:=[.tmp 6]) Anc.refl hro (lb_ rfl) rfl
  ·exact k3_
  ·exact k4_
  ·exact k5_
  ·rfl
  ·exact xa_
  ·exact k7_
  ·exact fun β=>rfl
  ·exact xa_
theorem tellsL_lit (xs:List Ins)(p1:Nat)(c p l i:Int)(hx:∀x∈xs,x.ok)(hn:xs.length≤45)(hc:(zu_ xs).2=0)(hl:limB c p l=false):zz_ Try.prog 33 [.sl 1 2 [] 5 0 xs.length (some p1),.agg [.int .i64 c,.int .i64 p,.int .i64 l],.int .i64 i] [.gone,.gone,.ro (.arr xs.length 5 (prS xs))] (.bool true) [.gone]:=by
 obtain⟨F,hF⟩:∃F,F=zr_ xs:=⟨_,rfl⟩
 obtain⟨⟨wa,we⟩,hW⟩:∃W,whyR xs c p l i=W:=⟨_,rfl⟩
 have h45:¬(45:Int) < xs.length:=by omega
 have hfl:F.length=xs.length:=by rw[hF];exact(facts_FI' hx hc).len
 have hf:fitE xs c p l=171:=by unfold fitE;rw[if_pos hc,hl];rfl
 have hf0:fitE xs c p l≠0:=by rw[hf];decide
 refine zf_ (fn:=Try.f33) 3 150 0 rfl rfl rfl rfl rfl u8_ rfl fun w0 M E hro=>?_
 repeat' (first|refine Ctl.h ?_ |((with_reducible intro hif);first |(focus (cases hif;done)) |((try simp only[JH]at hif);try exact hy_)) |((with_reducible first|apply J22 cTL_ok za_|apply J23 fol cTL_ok za_|apply J24);(·rfl);(· exact k149_);(try kernel_rfl);try exact xb_)|fail)
 have l5:=less5 32 true 0 171 we 171 0
 refine WF.loopAt (fun (j:Nat)=>j≤5) (fun (j:Nat)=>[(0,.sl 1 2 [] 5 0 xs.length (some p1)),(7,.sl 4 4 [] 5 0 xs.length none),(10,.sl 7 7 [] 17 0 xs.length none),(12,.sl 0 0 [] 0 0 0 (some 0)),(14,.int .i64 wa),(16,.int .i64 (-1)),(18,.ptr 8 []),(20,.sl 9 9 [] 17 0 xs.length none),(22,.sl 0 0 [] 0 0 0 (some 0)),(24,.int .i64 wa),(26,.int .i64 (-1)),(28,.ptr 10 []),(21,.int .i64 0),(23,.int .i64 171),(25,.int .i64 we),(27,.int .i64 171),(29,.int .i64 0),(103,.sl 11 11 [] 1 0 5 none),(104,.nat .i64 5),(105,.nat .i64 j)]) (fun (j:Nat)=>[.gone,.gone,.ro (.arr xs.length 5 (prS xs)),.own 31 (.agg [.int .i64 c,.int .i64 p,.int .i64 l]) true,.own 28 (.arr xs.length 5 (prS xs)) false,prT xs,.own 153 (.agg [.int .i64 c,.int .i64 p,.int .i64 l]) true,.own 44 (.arr xs.length 17 (y0_ F)) false,.own 31 (.agg [.int .i64 (zq_ xs F xs.length).1,.int .i64 (zq_ xs F xs.length).2,.int .i64 1]) true,.own 212 (.arr xs.length 17 (y0_ F)) false,.own 153 (.agg [.int .i64 (zq_ xs F xs.length).1,.int .i64 (zq_ xs F xs.length).2,.int .i64 1]) true,.own 32 (.arr 5 1 (zw_ [0,171,we,171,0])) true]) (fun (j:Nat)=>5 - j) 0 (Nat.zero_le _) ?_ ?_ rfl ?_ ?_ rfl ?_
 ·exact k8_
 ·exact k5_
 ·exact xa_
 ·exact xa_
 intro j hj
 by_cases hj5:j < 5
 ·rcases j with _|_|_|_|_|j
  all_goals try (exfalso;omega)
  ·repeat' (first|refine Ctl.h ?_ |((with_reducible intro hif);first |(focus (cases hif;done)) |((try simp only[JH]at hif);try exact hy_)) |((with_reducible first|apply J22 cTL_ok za_|apply J23 fol cTL_ok za_|apply J24);(·rfl);(· exact k150_);(try kernel_rfl);try exact xb_)|fail)
   refine At.nextPick [0,1,2,3,4,5,6,7,8,9,10,11] 1 ?_ rfl rfl rfl ?_ rfl ?_ ?_ ?_ rfl
   ·omega
   ·exact k53_
   ·exact xa_
   ·exact k48_
   ·exact xa_
  ·repeat' (first|refine Ctl.h ?_ |((with_reducible intro hif);first |(focus (cases hif;done)) |((try simp only[JH]at hif);try exact hy_)) |((with_reducible first|apply J22 cTL_ok za_|apply J23 fol cTL_ok za_|apply J24);(·rfl);(· exact k150_);(try kernel_rfl);try exact xb_)|fail)
   refine At.nextPick [0,1,2,3,4,5,6,7,8,9,10,11] 2 ?_ rfl rfl rfl ?_ rfl ?_ ?_ ?_ rfl
   ·omega
   ·exact k53_
   ·exact xa_
   ·exact k48_
   ·exact xa_
  ·repeat' (first|refine Ctl.h ?_ |((with_reducible intro hif);first |(focus (cases hif;done)) |((try simp only[JH]at hif);try exact hy_)) |((with_reducible first|apply J22 cTL_ok za_|apply J23 fol cTL_ok za_|apply J24);(·rfl);(· exact k150_);(try kernel_rfl);try exact xb_)|fail)
   refine At.nextPick [0,1,2,3,4,5,6,7,8,9,10,11] 3 ?_ rfl rfl rfl ?_ rfl ?_ ?_ ?_ rfl
   ·omega
   ·exact k53_
   ·exact xa_
   ·exact k48_
   ·exact xa_
  ·repeat' (first|refine Ctl.h ?_ |((with_reducible intro hif);first |(focus (cases hif;done)) |((try simp only[JH]at hif);try exact hy_)) |((with_reducible first|apply J22 cTL_ok za_|apply J23 fol cTL_ok za_|apply J24);(·rfl);(· exact k150_);(try kernel_rfl);try exact xb_)|fail)
   refine At.nextPick [0,1,2,3,4,5,6,7,8,9,10,11] 4 ?_ rfl rfl rfl ?_ rfl ?_ ?_ ?_ rfl
   ·omega
   ·exact k53_
   ·exact xa_
   ·exact k48_
   ·exact xa_
  ·repeat' (first|refine Ctl.h ?_ |((with_reducible intro hif);first |(focus (cases hif;done)) |((try simp only[JH]at hif);try exact hy_)) |((with_reducible first|apply J22 cTL_ok za_|apply J23 fol cTL_ok za_|apply J24);(·rfl);(· exact k150_);(try kernel_rfl);try exact xb_)|fail)
   refine At.nextPick [0,1,2,3,4,5,6,7,8,9,10,11] 5 ?_ rfl rfl rfl ?_ rfl ?_ ?_ ?_ rfl
   ·omega
   ·exact k53_
   ·exact xa_
   ·exact k48_
   ·exact xa_
 ·obtain rfl:j=5:=by omega
  repeat' (first|refine Ctl.h ?_ |((with_reducible intro hif);first |(focus (cases hif;done)) |((try simp only[JH]at hif);try exact hy_)) |((with_reducible first|apply J22 cTL_ok za_|apply J23 fol cTL_ok za_|apply J24);(·rfl);(· exact k149_);(try kernel_rfl);try exact xb_)|fail)
  apply At.endsRet za_ (fn:=Try.f33) (rs:=[.tmp 6]) Anc.refl hro (lb_ rfl) rfl
  ·exact k3_
  ·exact k4_
  ·exact k5_
  ·rfl
  ·exact xa_
  ·exact k7_
  ·exact fun β=>rfl
  ·exact xa_
theorem tellsB_lit (xs:List Ins)(p1:Nat)(c p l i:Int)(hx:∀x∈xs,x.ok)(hn:xs.length≤45)(hc:(zu_ xs).2≠0):zz_ Try.prog 33 [.sl 1 2 [] 5 0 xs.length (some p1),.agg [.int .i64 c,.int .i64 p,.int .i64 l],.int .i64 i] [.gone,.gone,.ro (.arr xs.length 5 (prS xs))] (.bool true) [.gone]:=by
 obtain⟨F,hF⟩:∃F,F=zr_ xs:=⟨_,rfl⟩
 obtain⟨⟨wa,we⟩,hW⟩:∃W,whyR xs c p l i=W:=⟨_,rfl⟩
 have h45:¬(45:Int) < xs.length:=by omega
 have hf:fitE xs c p l=170:=by unfold fitE;rw[if_neg hc]
 have hf0:fitE xs c p l≠0:=by rw[hf];decide
 refine zf_ (fn:=Try.f33) 3 150 0 rfl rfl rfl rfl rfl u8_ rfl fun w0 M E hro=>?_
 repeat' (first|refine Ctl.h ?_ |((with_reducible intro hif);first |(focus (cases hif;done)) |((try simp only[JH]at hif);try exact hy_)) |((with_reducible first|apply J22 cTB_ok za_|apply J23 fol cTB_ok za_|apply J24);(·rfl);(· exact k151_);(try kernel_rfl);try exact xb_)|fail)
 have l5:=less5 32 true 170 170 we 170 170
 refine WF.loopAt (fun (j:Nat)=>j≤5) (fun (j:Nat)=>[(0,.sl 1 2 [] 5 0 xs.length (some p1)),(7,.sl 4 4 [] 5 0 xs.length none),(10,.sl 0 0 [] 0 0 0 (some 0)),(12,.sl 0 0 [] 0 0 0 (some 0)),(14,.int .i64 wa),(16,.int .i64 (-1)),(18,.ptr 7 []),(20,.sl 0 0 [] 0 0 0 (some 0)),(22,.sl 0 0 [] 0 0 0 (some 0)),(24,.int .i64 wa),(26,.int .i64 (-1)),(28,.ptr 8 []),(21,.int .i64 170),(23,.int .i64 170),(25,.int .i64 we),(27,.int .i64 170),(29,.int .i64 170),(103,.sl 9 9 [] 1 0 5 none),(104,.nat .i64 5),(105,.nat .i64 j)]) (fun (j:Nat)=>[.gone,.gone,.ro (.arr xs.length 5 (prS xs)),.own 31 (.agg [.int .i64 c,.int .i64 p,.int .i64 l]) true,.own 28 (.arr xs.length 5 (prS xs)) false,prT xs,.own 153 (.agg [.int .i64 c,.int .i64 p,.int .i64 l]) true,.own 31 (.agg [.int .i64 0,.int .i64 0,.int .i64 0]) true,.own 153 (.agg [.int .i64 0,.int .i64 0,.int .i64 0]) true,.own 32 (.arr 5 1 (zw_ [170,170,we,170,170])) true]) (fun (j:Nat)=>5 - j) 0 (Nat.zero_le _) ?_ ?_ rfl ?_ ?_ rfl ?_
 ·exact k8_
 ·exact k5_
 ·exact xa_
 ·exact xa_
 intro j hj
 by_cases hj5:j < 5
 ·rcases j with _|_|_|_|_|j
  all_goals try (exfalso;omega)
  ·repeat' (first|refine Ctl.h ?_ |((with_reducible intro hif);first |(focus (cases hif;done)) |((try simp only[JH]at hif);try exact hy_)) |((with_reducible first|apply J22 cTB_ok za_|apply J23 fol cTB_ok za_|apply J24);(·rfl);(· exact k152_);(try kernel_rfl);try exact xb_)|fail)
   refine At.nextPick [0,1,2,3,4,5,6,7,8,9] 1 ?_ rfl rfl rfl ?_ rfl ?_ ?_ ?_ rfl
   ·omega
   ·exact k53_
   ·exact xa_
   ·exact k48_
   ·exact xa_
  ·repeat' (first|refine Ctl.h ?_ |((with_reducible intro hif);first |(focus (cases hif;done)) |((try simp only[JH]at hif);try exact hy_)) |((with_reducible first|apply J22 cTB_ok za_|apply J23 fol cTB_ok za_|apply J24);(·rfl);(· exact k152_);(try kernel_rfl);try exact xb_)|fail)
   refine At.nextPick [0,1,2,3,4,5,6,7,8,9] 2 ?_ rfl rfl rfl ?_ rfl ?_ ?_ ?_ rfl
   ·omega
   ·exact k53_
   ·exact xa_
   ·exact k48_
   ·exact xa_
  ·repeat' (first|refine Ctl.h ?_ |((with_reducible intro hif);first |(focus (cases hif;done)) |((try simp only[JH]at hif);try exact hy_)) |((with_reducible first|apply J22 cTB_ok za_|apply J23 fol cTB_ok za_|apply J24);(·rfl);(· exact k152_);(try kernel_rfl);try exact xb_)|fail)
   refine At.nextPick [0,1,2,3,4,5,6,7,8,9] 3 ?_ rfl rfl rfl ?_ rfl ?_ ?_ ?_ rfl
   ·omega
   ·exact k53_
   ·exact xa_
   ·exact k48_
   ·exact xa_
  ·repeat' (first|refine Ctl.h ?_ |((with_reducible intro hif);first |(focus (cases hif;done)) |((try simp only[JH]at hif);try exact hy_)) |((with_reducible first|apply J22 cTB_ok za_|apply J23 fol cTB_ok za_|apply J24);(·rfl);(· exact k152_);(try kernel_rfl);try exact xb_)|fail)
   refine At.nextPick [0,1,2,3,4,5,6,7,8,9] 4 ?_ rfl rfl rfl ?_ rfl ?_ ?_ ?_ rfl
   ·omega
   ·exact k53_
   ·exact xa_
   ·exact k48_
   ·exact xa_
  ·repeat' (first|refine Ctl.h ?_ |((with_reducible intro hif);first |(focus (cases hif;done)) |((try simp only[JH]at hif);try exact hy_)) |((with_reducible first|apply J22 cTB_ok za_|apply J23 fol cTB_ok za_|apply J24);(·rfl);(· exact k152_);(try kernel_rfl);try exact xb_)|fail)
   refine At.nextPick [0,1,2,3,4,5,6,7,8,9] 5 ?_ rfl rfl rfl ?_ rfl ?_ ?_ ?_ rfl
   ·omega
   ·exact k53_
   ·exact xa_
   ·exact k48_
   ·exact xa_
 ·obtain rfl:j=5:=by omega
  repeat' (first|refine Ctl.h ?_ |((with_reducible intro hif);first |(focus (cases hif;done)) |((try simp only[JH]at hif);try exact hy_)) |((with_reducible first|apply J22 cTB_ok za_|apply J23 fol cTB_ok za_|apply J24);(·rfl);(· exact k151_);(try kernel_rfl);try exact xb_)|fail)
  apply At.endsRet za_ (fn:=Try.f33) (rs:=[.tmp 6]) Anc.refl hro (lb_ rfl) rfl
  ·exact k3_
  ·exact k4_
  ·exact k5_
  ·rfl
  ·exact xa_
  ·exact k7_
  ·exact fun β=>rfl
  ·exact xa_
theorem tells17_lit (xs:List Ins)(p1:Nat)(c p l i:Int)(hx:∀x∈xs,x.ok)(hn:xs.length≤45):zz_ Try.prog 33 [.sl 1 2 [] 5 0 xs.length (some p1),.agg [.int .i64 c,.int .i64 p,.int .i64 l],.int .i64 i] [.gone,.gone,.ro (.arr xs.length 5 (prS xs))] (.bool true) [.gone]:=by
 by_cases hc:(zu_ xs).2=0
 ·cases hl:limB c p l with
  | true=>exact tellsG_lit xs p1 c p l i hx hn hc hl
  | false=>exact tellsL_lit xs p1 c p l i hx hn hc hl
 ·exact tellsB_lit xs p1 c p l i hx hn hc
def sTells17:y4_:=fun args h m=>match args with
 | [v1,.agg [v2,v3,v4],v5]=>match srcV h 5 (.tup []) v1 with
  | some (c1,n1,f1,r1)=>bif isI .i64 v2 && isI .i64 v3 && isI .i64 v4 && isI .i64 v5 then some (c1∧(∀q,q < n1→xt_ (f1 q)=true)∧((∀x∈(ls zd_ n1 f1),x.ok))∧(n1≤45),.bool true,r1,[])else none
  | _=>none
 | _=>none
theorem sTells17_ok:zm_ Try.prog 33 sTells17:=by
 refine⟨zg_ (by kernel_rfl),fun args h m c v rd wr hs hm hc w0 M β h' w R hrd hwr hst=>?_⟩
 unfold sTells17 at hs
 split at hs
 ·rename_i v1 v2 v3 v4 v5
  split at hs
  ·rename_i c1 n1 f1 r1 a1
   obtain⟨hb,hs⟩:=zn_ hs
   simp only[Option.some.injEq,Prod.mk.injEq]at hs
   obtain⟨rfl,rfl,rfl,rfl⟩:=hs
   simp only[Bool.and_eq_true]at hb
   obtain⟨⟨⟨b2,b3⟩,b4⟩,b5⟩:=hb
   obtain⟨k1,g1,y1,y2⟩:=hc
   obtain⟨A1,p1,d1,e1,t1⟩:=zp_ R a1 k1 (fun i hi=>hrd i hi) (by omega)
   refine yb_ (views:=[⟨5,(ls zd_ n1 f1).length,prS (ls zd_ n1 f1),A1,p1⟩]) (tells17_lit (ls zd_ n1 f1) p1 (iOf v2) (iOf v3) (iOf v4) (iOf v5) y1 (by rw[zc_];exact y2)) ?_ R hm hwr ?_ ?_ ?_
   ·exact d20_
   ·exact d38_
   ·exact xa_
   ·exact xa_
  ·cases hs
 ·cases hs
end Go.Proofs.Ytmljmabbopkpiaa.Vm
end

import Derived.Test.YtmljmabbopkpiaaC1
import Derived.Test.YtmljmabbopkpiaaC23
set_option linter.unusedSimpArgs false
set_option linter.unusedVariables false
set_option maxRecDepth 100000
set_option maxHeartbeats 4000000
section
namespace Go.Proofs.Ytmljmabbopkpiaa.Vm
open Go.RowKit
attribute [local push_cast] prS sndsS zw_ nav_ins xs_ xr_ xq_ xp_ xo_ nav_snd xn_ xm_ xl_ yo_ yi_ yv_ yq_ yz_ yy_ iOf nav_k nav_k0 nav_k1 nav_ka nav_kai nav_ft nav_ft0 nav_ft1 isKn_kS knOf_kS isKa_kaS kaOf_kaS isFt_ftS ftOf_ftS setp_ka setp_ftk setp_ftr setp_fti evm_ins evm_snd evm_k evm_ka evm_ft
def cFa:FuncId→Option y4_:=xz_ [(99,sGoes),(98,xc_),(100,sHands),(126,xh_),(101,sMeet)]
theorem zj_:∀f S,cFa f=some S→zm_ Try.prog f S:=z0_ ⟨sGoes_ok,sTarget_ok,sHands_ok,sResult_ok,sMeet_ok,trivial⟩
theorem yj_ (F:List Ft)(q:Nat):yc_ (.struct [.bool,.arr 8 2 (.struct [.bool,.int .i64])]) (y0_ F q)=True:=ym_ _
theorem arr_cl' {β : Env}{n k:Nat}{f g:Nat→SV}(h:∀q,q < n→(f q).cl β =(g q).cl β):(SV.arr n k f).cl β =(SV.arr n k g).cl β:=by
 rw[cl_arr,cl_arr,List.flatMap_def,List.flatMap_def]
 congr 1
 exact List.map_congr_left fun q hq=>by rw[h q (List.mem_range.1 hq)]
theorem less_fts {t n:Nat}{ex:Bool}{f:Nat→SV}{F:List Ft}(h:∀q,q < n→∀β,(f q).cl β =(ftS (zs_ F q)).cl β):Less (.own t (.arr n 17 f) ex) (.own t (.arr n 17 (y0_ F)) ex):=
 .val (fun β=>arr_cl' fun q hq=>h q hq β) (fun n1 k1 f1 e=>by injection e with e1 e2 e3;subst e1 e2;exact⟨_,rfl⟩) (fun n1 k1 f1 e=>by injection e with e1 e2 e3;subst e1 e2;exact⟨_,rfl⟩)
theorem ft_cl {β : Env}{c:Bool}{F:Nat→SV}{r:Nat→Kn}(h:∀q,q < 8→(F q).cl β =(kS (r q)).cl β):(SV.agg [.bool c,.arr 8 2 F]).cl β =(ftS ⟨c,r⟩).cl β:=by
 show _=(SV.agg [.bool c,kaS r]).cl β
 rw[cl_agg,cl_agg,yk_,yk_,clL_nil,yk_,yk_,clL_nil]
 congr 2
 exact arr_cl' h
def initR (n r:Nat):List Ft:=(List.replicate n F0).set 0 ⟨true,fun k=>if 3≤k∧k < r then ⟨true,0⟩ else K0⟩
theorem initR_0 {n r:Nat}(h:0 < n):zs_ (initR n r) 0=⟨true,fun k=>if 3≤k∧k < r then ⟨true,0⟩ else K0⟩:=by
 unfold zs_ initR
 simp[h]
theorem initR_s {n r q:Nat}(h:q≠0):zs_ (initR n r) q=F0:=by
 unfold zs_ initR
 rw[List.getD_eq_getElem?_getD,List.getElem?_set_ne (fun e=>h e.symm),List.getElem?_replicate]
 split<;>rfl
theorem initR_next {n r:Nat}(l0:0 < n)(hr3:3≤r):∀q,q < n→SV.ite (decide (q=0)) (ftS ⟨(zs_ (initR n r) 0).reached,setK (zs_ (initR n r) 0).regs r ⟨true,((zs_ (initR n r) 0).regs r).n⟩⟩) (ftS (zs_ (initR n r) q))=y0_ (initR n (r+1)) q:=fun q hq=>by
 rw[x1_]
 unfold y0_
 by_cases h:q=0
 ·subst h
  simp only[decide_true,cond_true,initR_0 l0]
  congr 2
  funext j
  unfold setK
  show (if j=r then(⟨true,(if 3≤r∧r < r then(⟨true,0⟩:Kn)else K0).n⟩:Kn)else if 3≤j∧j < r then ⟨true,0⟩ else K0)=if 3≤j∧j < r+1 then ⟨true,0⟩ else K0
  rw[if_neg (show ¬(3≤r∧r < r) by omega)]
  by_cases hj:j=r
  ·subst hj
   rw[if_pos rfl,if_pos ⟨hr3,by omega⟩];rfl
  ·rw[if_neg hj]
   by_cases h3:3≤j∧j < r
   ·rw[if_pos h3,if_pos (by omega)]
   ·rw[if_neg h3,if_neg (by omega)]
 ·simp only[h,decide_false,cond_false,initR_s h]
theorem initF_len (n:Nat):(initF n).length=n:=by simp[initF]
theorem initF_sum (n:Nat):sumF (initF n)≤n*9:=by
 have h:∀l:List Ft,sumF l≤l.length*9:=fun l=>by
  induction l with
  | nil=>simp[sumF]
  | cons a l ih=>
   have hw:wF a≤9:=by
    unfold wF
    have:=cntR_le a.regs
    split<;>omega
   simp only[sumF,List.map_cons,List.sum_cons,List.length_cons]at ih ⊢
   omega
 have:=h (initF n)
 rwa [initF_len]at this
theorem init_l0 (n:Nat)(h:0 < n):Less (.own 44 (.arr n 17 fun j=>SV.ite (decide (j=0)) (.agg [.bool true,.arr 8 2 fun _=>.agg [.bool false,.nat .i64 0]]) (.agg [.bool false,.arr 8 2 fun _=>.agg [.bool false,.nat .i64 0]])) true) (.own 44 (.arr n 17 (y0_ (initR n 3))) true):=less_fts fun q hq β=>by
 rw[x1_]
 by_cases h0:q=0
 ·subst h0
  rw[initR_0 h]
  simp only[decide_true,cond_true]
  refine ft_cl fun q hq=>?_
  rw[if_neg (by omega)]
  rfl
 ·rw[initR_s h0]
  simp only[h0,decide_false,cond_false]
  exact ft_cl fun q hq=>rfl
theorem scan_next {xs:List Ins}{F:List Ft}{k:Nat}{x:Ins}(h:scanK xs F k=none)(hre:(zs_ F k).reached=true)(hX:xs.getD k ⟨0,0,0,0,0⟩=x)(hs:scanY F (xf_ x k (zs_ F k))=none):scanK xs F (k+1)=none:=by
 unfold scanK
 rw[h]
 simp only[hre,if_true,hX]
 exact hs
theorem scan_some {xs:List Ins}{F G:List Ft}{k:Nat}{x:Ins}(h:scanK xs F k=none)(hre:(zs_ F k).reached=true)(hX:xs.getD k ⟨0,0,0,0,0⟩=x)(hk:k < xs.length)(hs:scanY F (xf_ x k (zs_ F k))=some G):stepF xs F=some G:=by
 have h1:scanK xs F (k+1)=some G:=by
  unfold scanK
  rw[h]
  simp only[hre,if_true,hX]
  exact hs
 have key:∀d,scanK xs F (k+1+d)=some G:=fun d=>by
  induction d with
  | zero=>exact h1
  | succ d ih=>rw[←Nat.add_assoc];unfold scanK;rw[ih]
 unfold stepF
 rw[show xs.length=k+1+(xs.length - (k+1)) by omega]
 exact key _
theorem scanE_1 {F G:List Ft}{x:Ins}{k:Nat}{t:Bool}{f:Ft}(h:updF F (k+1) f=some G):scanY F (emitL x k true t f)=some G:=by
 have e:((k:Int)+1).toNat=k+1:=by omega
 simp[emitL,scanY,e,h]
theorem scanE_2 {F G:List Ft}{x:Ins}{k T:Nat}{g:Bool}{f:Ft}(h1:g=true→updF F (k+1) f=none)(hT:targV x=(T:Int))(h:updF F T f=some G):scanY F (emitL x k g true f)=some G:=by
 have e:((k:Int)+1).toNat=k+1:=by omega
 cases g with
 | true=>simp[emitL,scanY,e,h1 rfl,hT,h]
 | false=>simp[emitL,scanY,hT,h]
theorem scanE_0 {F:List Ft}{x:Ins}{k:Nat}{g t:Bool}{f:Ft}(h1:g=true→updF F (k+1) f=none)(h2:t=true→updF F (targV x).toNat f=none):scanY F (emitL x k g t f)=none:=by
 have e:((k:Int)+1).toNat=k+1:=by omega
 cases g<;>cases t<;>simp[emitL,scanY,e,h1,h2]
theorem iter_next {xs:List Ins}{F G R:List Ft}{m:Nat}(hs:stepF xs F=some G)(hlt:sumF G < sumF F)(hm:sumF F≤m)(h:iterF xs m F=R):∃m',sumF G≤m'∧iterF xs m' G=R:=by
 obtain⟨m',rfl⟩:∃m',m=m'+1:=⟨m - 1,by omega⟩
 refine⟨m',by omega,?_⟩
 unfold iterF at h
 rw[hs]at h
 exact h
theorem iter_end {xs:List Ins}{F R:List Ft}{m:Nat}(hs:scanK xs F xs.length=none)(h:iterF xs m F=R):R=F:=by
 cases m with
 | zero=>exact h.symm
 | succ m=>
  unfold iterF at h
  rw[show stepF xs F=none from hs]at h
  exact h.symm
theorem facts_lit (xs:List Ins)(p1:Nat)(hx:∀x∈xs,x.ok)(hc:(zu_ xs).2=0):zz_ Try.prog 56 [.sl 1 2 [] 5 0 xs.length (some p1)] [.gone,.gone,.ro (.arr xs.length 5 (prS xs))] (.sl 3 3 [] 17 0 xs.length none) [.gone,.gone,.gone,.own 44 (.arr xs.length 17 (y0_ (zr_ xs))) false]:=by
 refine zf_ (fn:=Try.f56) 3 67 0 rfl rfl rfl rfl rfl u3_ rfl fun w0 M E hro=>?_
 obtain⟨l0,l1,_,_⟩:=yr_ hc
 repeat' (first|refine Ctl.h ?_ |((with_reducible intro hif);first |(focus (cases hif;done)) |((try simp only[JH]at hif);try exact hy_)) |((with_reducible first|apply J22 zj_ za_|apply J23 fol zj_ za_|apply J24);(·rfl);(· exact k13_);(try kernel_rfl);try exact k9_)|fail)
 have hl0:=init_l0 xs.length l0
 refine WF.loopAt (fun r=>3≤r∧r≤8) (fun r=>[(0,.sl 1 2 [] 5 0 xs.length (some p1)),(3,.ptr 4 []),(4,.nat .i64 r)]) (fun r=>[.gone,.gone,.ro (.arr xs.length 5 (prS xs)),.own 44 (.arr xs.length 17 (y0_ (initR xs.length r))) true,.own 35 (.sl 3 3 [] 17 0 xs.length none) true]) (fun r=>8 - r) 3 ⟨Nat.le_refl _,by omega⟩ ?_ ?_ rfl ?_ ?_ rfl ?_
 ·exact k8_
 ·exact k5_
 ·exact k6_
 ·exact k6_
 rintro r ⟨hr3,hr8⟩
 repeat' (first|refine Ctl.h ?_ |((with_reducible intro hif);first |(focus (cases hif;done)) |((try simp only[JH]at hif);try exact hy_)) |((with_reducible first|apply J22 zj_ za_|apply J23 fol zj_ za_|apply J24);(·rfl);(· (simp only[push_cast,↓JP,Nat.reduceAdd,Nat.reduceEqDiff,Nat.reduceLT,Nat.reduceMul,Nat.reduceLeDiff,reduceCtorEq,reduceIte,↓JK,↓JF,y0_,inN];rfl));(try kernel_rfl);try exact k85_)|fail)
 ·have hl:=initR_next l0 hr3
  refine At.next (r+1) ?_ ?_ ?_ rfl ?_ ?_ rfl
  ·omega
  ·exact k8_
  ·exact k5_
  ·exact k6_
  ·exact k6_
 obtain rfl:r=8:=by omega
 refine WF.loopB (fun F=>F.length=xs.length∧∃m,sumF F≤m∧iterF xs m F=zr_ xs) (fun F=>[(0,.sl 1 2 [] 5 0 xs.length (some p1)),(3,.ptr 4 [])]) (fun F=>[.gone,.gone,.ro (.arr xs.length 5 (prS xs)),.own 44 (.arr xs.length 17 (y0_ F)) true,.own 35 (.sl 3 3 [] 17 0 xs.length none) true]) (fun F=>sumF F) (initF xs.length) ⟨initF_len _,xs.length*9,initF_sum _,rfl⟩ ?_ ?_ rfl ?_ ?_ rfl ?_
 ·exact k8_
 ·exact k5_
 ·exact k6_
 ·exact k6_
 rintro wa Ma Da F hAa ⟨hFl,m,hm,hFm⟩
 repeat' (first|refine Ctl.h ?_ |((with_reducible intro hif);first |(focus (cases hif;done)) |((try simp only[JH]at hif);try exact hy_)) |((with_reducible first|apply J22 zj_ za_|apply J23 fol zj_ za_|apply J24);(·rfl);(· exact k13_);(try kernel_rfl);try exact k9_)|fail)
 refine WF.loopB (fun k=>k≤xs.length∧scanK xs F k=none) (fun k=>[(0,.sl 1 2 [] 5 0 xs.length (some p1)),(3,.ptr 4 []),(25,.nat .i64 xs.length),(26,.nat .i64 k)]) (fun k=>[.gone,.gone,.ro (.arr xs.length 5 (prS xs)),.own 44 (.arr xs.length 17 (y0_ F)) true,.own 35 (.sl 3 3 [] 17 0 xs.length none) true]) (fun k=>xs.length - k) 0 ⟨Nat.zero_le _,rfl⟩ ?_ ?_ rfl ?_ ?_ rfl ?_
 ·exact k8_
 ·exact k5_
 ·exact k6_
 ·exact k6_
 rintro wb Mb Db k hBb ⟨hk,hsc⟩
 by_cases hkl:k < xs.length
 ·by_cases hre:(zs_ F k).reached=true
  ·obtain⟨x,hX⟩:∃x,xs.getD k ⟨0,0,0,0,0⟩=x:=⟨_,rfl⟩
   have hR:=right_at hx hc hkl
   rw[hX]at hR
   have hok:=hR.ok
   obtain⟨o0,o1,a0,a1,b0,b1,c0,c1,n0',n1'⟩:=hR.ok
   have ha8:=hR.a
   have hb8:=hR.b
   have hc8:=hR.c
   repeat' (first|refine Ctl.h ?_ |((with_reducible intro hif);first |(focus (cases hif;done)) |((try simp only[JH]at hif);try exact hy_)) |((with_reducible first|apply J22 zj_ za_|apply J23 fol zj_ za_|apply J24);(·rfl);(· (simp only[push_cast,↓JP,Nat.reduceAdd,Nat.reduceEqDiff,Nat.reduceLT,Nat.reduceMul,Nat.reduceLeDiff,reduceCtorEq,reduceIte,↓JK,↓JF,cFa,sHands,y0_,hre,hkl,inN];rfl));(try kernel_rfl);try exact k85_)|fail)
   with_reducible apply WF.range (fn':=Try.f125) 102
   ·exact k77_
   ·exact k39_
   ·rfl
   ·rfl
   ·rfl
   ·rfl
   ·rfl
   ·rfl
   ·rfl
   intro E1 rec tmps after hE1 hrec hcf haft
   iterate 16 (try (first|refine Ctl.h ?_ |((with_reducible intro hif);first |(focus (cases hif;done)) |((try simp only[JH]at hif);try exact hy_)) |((with_reducible first|apply J22 zj_ za_|apply J23 fol zj_ za_|apply J24);(·rfl);(· (simp only[push_cast,↓JP,Nat.reduceAdd,Nat.reduceEqDiff,Nat.reduceLT,Nat.reduceMul,Nat.reduceLeDiff,reduceCtorEq,reduceIte,↓JK,↓JF,cFa,sGoes,xc_,hX,inN];rfl));(try kernel_rfl);try exact k85_)|fail))
   -- the iterator
   refine WF.seqJoin (fun z:Bool×Bool×Ft=>Emits xs.length k x (zs_ F k) z) (fun z=>[(0,.yl 9),(2,.ptr 6 []),(3,.ptr 7 []),(7,.int .i64 (targV x)),(8,.bool z.2.1),(9,.bool z.1)]) (fun z=>[.gone,.gone,.ro (.arr xs.length 5 (prS xs)),.own 44 (.arr xs.length 17 (y0_ F)) true,.own 35 (.sl 3 3 [] 17 0 xs.length none) true,.gone,.own 3 (.nat .i64 k) true,.own 44 (ftS z.2.2) true,.raw (.deferred (some [])),.raw (.loop (rec .ready none))]) ?_ ?_
   ·rcases hR.cls with h|h|h|h|h|h|h|h|h|h|h|⟨h33,h49⟩
    ·-- 1
     have hG1:goesB x=false:=by rw[goesB_of hR.one,h];rfl
     have hT1:xj_ x=false:=by rw[targB_of hR.one,h];rfl
     repeat' (first|refine Ctl.h ?_ |((with_reducible intro hif);first |(focus (cases hif;done)) |((try simp only[JH]at hif);try exact hy_)) |((with_reducible first|apply J22 zj_ za_|apply J23 fol zj_ za_|apply J24);(·rfl);(· (simp only[push_cast,↓JP,Nat.reduceAdd,Nat.reduceEqDiff,Nat.reduceLT,Nat.reduceMul,Nat.reduceLeDiff,reduceCtorEq,reduceIte,↓JK,↓JF,cFa,sGoes,xc_,xh_,sMeet,sHands,hX,inN,inR,y0_,↓ym_,↓yj_,ft_eq,h,hG1,hT1];rfl));(try kernel_rfl);try exact xx_)|fail)
     refine At.join (false,false,zs_ F k) ?_ ?_ ?_ rfl ?_ ?_ rfl
     ·exact⟨(by unfold xf_;simp[h,hG1,hT1]),fun h0=>(by cases h0),fun h0=>(by cases h0),rfl⟩
     ·exact k8_
     ·exact k5_
     ·exact k6_
     ·exact k6_
    ·-- 2
     have hG2:goesB x=false:=by rw[goesB_of hR.one,h];rfl
     have hT2:xj_ x=false:=by rw[targB_of hR.one,h];rfl
     repeat' (first|refine Ctl.h ?_ |((with_reducible intro hif);first |(focus (cases hif;done)) |((try simp only[JH]at hif);try exact hy_)) |((with_reducible first|apply J22 zj_ za_|apply J23 fol zj_ za_|apply J24);(·rfl);(· (simp only[push_cast,↓JP,Nat.reduceAdd,Nat.reduceEqDiff,Nat.reduceLT,Nat.reduceMul,Nat.reduceLeDiff,reduceCtorEq,reduceIte,↓JK,↓JF,cFa,sGoes,xc_,xh_,sMeet,sHands,hX,inN,inR,y0_,↓ym_,↓yj_,ft_eq,h,hG2,hT2];rfl));(try kernel_rfl);try exact xx_)|fail)
     refine At.join (false,false,zs_ F k) ?_ ?_ ?_ rfl ?_ ?_ rfl
     ·exact⟨(by unfold xf_;simp[h,hG2,hT2]),fun h0=>(by cases h0),fun h0=>(by cases h0),rfl⟩
     ·exact k8_
     ·exact k5_
     ·exact k6_
     ·exact k6_
    ·-- 3
     have hG3:goesB x=true:=by rw[goesB_of hR.one,h];rfl
     have hT3:xj_ x=false:=by rw[targB_of hR.one,h];rfl
     repeat' (first|refine Ctl.h ?_ |((with_reducible intro hif);first |(focus (cases hif;done)) |((try simp only[JH]at hif);try exact hy_)) |((with_reducible first|apply J22 zj_ za_|apply J23 fol zj_ za_|apply J24);(·rfl);(· (simp only[push_cast,↓JP,Nat.reduceAdd,Nat.reduceEqDiff,Nat.reduceLT,Nat.reduceMul,Nat.reduceLeDiff,reduceCtorEq,reduceIte,↓JK,↓JF,cFa,sGoes,xc_,xh_,sMeet,sHands,hX,inN,inR,y0_,↓ym_,↓yj_,ft_eq,h,hG3,hT3];rfl));(try kernel_rfl);try exact xx_)|fail)
     refine At.join (true,false,⟨(zs_ F k).reached,setK (zs_ F k).regs x.a.toNat (resK x (zs_ F k).regs).1⟩) ?_ ?_ ?_ rfl ?_ ?_ rfl
     ·exact⟨(by unfold xf_;simp[h,hG3,hT3]),fun _=>hR.goes hG3,fun h0=>(by cases h0),rfl⟩
     ·exact k8_
     ·exact k5_
     ·exact k6_
     ·exact k6_
    ·-- 4
     have hG4:goesB x=true:=by rw[goesB_of hR.one,h];rfl
     have hT4:xj_ x=false:=by rw[targB_of hR.one,h];rfl
     repeat' (first|refine Ctl.h ?_ |((with_reducible intro hif);first |(focus (cases hif;done)) |((try simp only[JH]at hif);try exact hy_)) |((with_reducible first|apply J22 zj_ za_|apply J23 fol zj_ za_|apply J24);(·rfl);(· (simp only[push_cast,↓JP,Nat.reduceAdd,Nat.reduceEqDiff,Nat.reduceLT,Nat.reduceMul,Nat.reduceLeDiff,reduceCtorEq,reduceIte,↓JK,↓JF,cFa,sGoes,xc_,xh_,sMeet,sHands,hX,inN,inR,y0_,↓ym_,↓yj_,ft_eq,h,hG4,hT4];rfl));(try kernel_rfl);try exact xx_)|fail)
     refine At.join (true,false,⟨(zs_ F k).reached,setK (zs_ F k).regs x.a.toNat (resK x (zs_ F k).regs).1⟩) ?_ ?_ ?_ rfl ?_ ?_ rfl
     ·exact⟨(by unfold xf_;simp[h,hG4,hT4]),fun _=>hR.goes hG4,fun h0=>(by cases h0),rfl⟩
     ·exact k8_
     ·exact k5_
     ·exact k6_
     ·exact k6_
    ·-- 5
     have hG5:goesB x=true:=by rw[goesB_of hR.one,h];rfl
     have hT5:xj_ x=false:=by rw[targB_of hR.one,h];rfl
     repeat' (first|refine Ctl.h ?_ |((with_reducible intro hif);first |(focus (cases hif;done)) |((try simp only[JH]at hif);try exact hy_)) |((with_reducible first|apply J22 zj_ za_|apply J23 fol zj_ za_|apply J24);(·rfl);(· (simp only[push_cast,↓JP,Nat.reduceAdd,Nat.reduceEqDiff,Nat.reduceLT,Nat.reduceMul,Nat.reduceLeDiff,reduceCtorEq,reduceIte,↓JK,↓JF,cFa,sGoes,xc_,xh_,sMeet,sHands,hX,inN,inR,y0_,↓ym_,↓yj_,ft_eq,h,hG5,hT5];rfl));(try kernel_rfl);try exact xx_)|fail)
     refine At.join (true,false,⟨(zs_ F k).reached,setK (zs_ F k).regs x.a.toNat (resK x (zs_ F k).regs).1⟩) ?_ ?_ ?_ rfl ?_ ?_ rfl
     ·exact⟨(by unfold xf_;simp[h,hG5,hT5]),fun _=>hR.goes hG5,fun h0=>(by cases h0),rfl⟩
     ·exact k8_
     ·exact k5_
     ·exact k6_
     ·exact k6_
    ·-- 6
     have hG6:goesB x=true:=by rw[goesB_of hR.one,h];rfl
     have hT6:xj_ x=false:=by rw[targB_of hR.one,h];rfl
     repeat' (first|refine Ctl.h ?_ |((with_reducible intro hif);first |(focus (cases hif;done)) |((try simp only[JH]at hif);try exact hy_)) |((with_reducible first|apply J22 zj_ za_|apply J23 fol zj_ za_|apply J24);(·rfl);(· (simp only[push_cast,↓JP,Nat.reduceAdd,Nat.reduceEqDiff,Nat.reduceLT,Nat.reduceMul,Nat.reduceLeDiff,reduceCtorEq,reduceIte,↓JK,↓JF,cFa,sGoes,xc_,xh_,sMeet,sHands,hX,inN,inR,y0_,↓ym_,↓yj_,ft_eq,h,hG6,hT6];rfl));(try kernel_rfl);try exact xx_)|fail)
     refine At.join (true,false,zs_ F k) ?_ ?_ ?_ rfl ?_ ?_ rfl
     ·exact⟨(by unfold xf_;simp[h,hG6,hT6]),fun _=>hR.goes hG6,fun h0=>(by cases h0),rfl⟩
     ·exact k8_
     ·exact k5_
     ·exact k6_
     ·exact k6_
    ·-- 7
     have hG7:goesB x=true:=by rw[goesB_of hR.one,h];rfl
     have hT7:xj_ x=false:=by rw[targB_of hR.one,h];rfl
     repeat' (first|refine Ctl.h ?_ |((with_reducible intro hif);first |(focus (cases hif;done)) |((try simp only[JH]at hif);try exact hy_)) |((with_reducible first|apply J22 zj_ za_|apply J23 fol zj_ za_|apply J24);(·rfl);(· (simp only[push_cast,↓JP,Nat.reduceAdd,Nat.reduceEqDiff,Nat.reduceLT,Nat.reduceMul,Nat.reduceLeDiff,reduceCtorEq,reduceIte,↓JK,↓JF,cFa,sGoes,xc_,xh_,sMeet,sHands,hX,inN,inR,y0_,↓ym_,↓yj_,ft_eq,h,hG7,hT7];rfl));(try kernel_rfl);try exact xx_)|fail)
     refine At.join (true,false,⟨(zs_ F k).reached,setK (zs_ F k).regs x.a.toNat (resK x (zs_ F k).regs).1⟩) ?_ ?_ ?_ rfl ?_ ?_ rfl
     ·exact⟨(by unfold xf_;simp[h,hG7,hT7]),fun _=>hR.goes hG7,fun h0=>(by cases h0),rfl⟩
     ·exact k8_
     ·exact k5_
     ·exact k6_
     ·exact k6_
    ·-- 8
     have hG8:goesB x=true:=by rw[goesB_of hR.one,h];rfl
     have hT8:xj_ x=false:=by rw[targB_of hR.one,h];rfl
     repeat' (first|refine Ctl.h ?_ |((with_reducible intro hif);first |(focus (cases hif;done)) |((try simp only[JH]at hif);try exact hy_)) |((with_reducible first|apply J22 zj_ za_|apply J23 fol zj_ za_|apply J24);(·rfl);(· (simp only[push_cast,↓JP,Nat.reduceAdd,Nat.reduceEqDiff,Nat.reduceLT,Nat.reduceMul,Nat.reduceLeDiff,reduceCtorEq,reduceIte,↓JK,↓JF,cFa,sGoes,xc_,xh_,sMeet,sHands,hX,inN,inR,y0_,↓ym_,↓yj_,ft_eq,h,hG8,hT8];rfl));(try kernel_rfl);try exact xx_)|fail)
     refine At.join (true,false,zs_ F k) ?_ ?_ ?_ rfl ?_ ?_ rfl
     ·exact⟨(by unfold xf_;simp[h,hG8,hT8]),fun _=>hR.goes hG8,fun h0=>(by cases h0),rfl⟩
     ·exact k8_
     ·exact k5_
     ·exact k6_
     ·exact k6_
    ·-- 9
     have hG9:goesB x=false:=by rw[goesB_of hR.one,h];rfl
     have hT9:xj_ x=true:=by rw[targB_of hR.one,h];rfl
     repeat' (first|refine Ctl.h ?_ |((with_reducible intro hif);first |(focus (cases hif;done)) |((try simp only[JH]at hif);try exact hy_)) |((with_reducible first|apply J22 zj_ za_|apply J23 fol zj_ za_|apply J24);(·rfl);(· (simp only[push_cast,↓JP,Nat.reduceAdd,Nat.reduceEqDiff,Nat.reduceLT,Nat.reduceMul,Nat.reduceLeDiff,reduceCtorEq,reduceIte,↓JK,↓JF,cFa,sGoes,xc_,xh_,sMeet,sHands,hX,inN,inR,y0_,↓ym_,↓yj_,ft_eq,h,hG9,hT9];rfl));(try kernel_rfl);try exact xx_)|fail)
     refine At.join (false,true,zs_ F k) ?_ ?_ ?_ rfl ?_ ?_ rfl
     ·exact⟨(by unfold xf_;simp[h,hG9,hT9]),fun h0=>(by cases h0),fun _=>hR.targ hT9,rfl⟩
     ·exact k8_
     ·exact k5_
     ·exact k6_
     ·exact k6_
    ·-- 10
     have hG10:goesB x=true:=by rw[goesB_of hR.one,h];rfl
     have hT10:xj_ x=true:=by rw[targB_of hR.one,h];rfl
     by_cases hk1:((zs_ F k).regs x.a.toNat).is_=true
     ·by_cases hk0:((zs_ F k).regs x.a.toNat).n=0
      ·repeat' (first|refine Ctl.h ?_ |((with_reducible intro hif);first |(focus (cases hif;done)) |((try simp only[JH]at hif);try exact hy_)) |((with_reducible first|apply J22 zj_ za_|apply J23 fol zj_ za_|apply J24);(·rfl);(· exact k86_);(try kernel_rfl);try exact xx_)|fail)
       refine At.join (false,true,zs_ F k) ?_ ?_ ?_ rfl ?_ ?_ rfl
       ·exact⟨(by unfold xf_;simp[h,hk1,hk0]),fun h0=>(by cases h0),fun _=>hR.targ hT10,rfl⟩
       ·exact k8_
       ·exact k5_
       ·exact k6_
       ·exact k6_
      ·repeat' (first|refine Ctl.h ?_ |((with_reducible intro hif);first |(focus (cases hif;done)) |((try simp only[JH]at hif);try exact hy_)) |((with_reducible first|apply J22 zj_ za_|apply J23 fol zj_ za_|apply J24);(·rfl);(· exact k86_);(try kernel_rfl);try exact xx_)|fail)
       refine At.join (true,false,zs_ F k) ?_ ?_ ?_ rfl ?_ ?_ rfl
       ·exact⟨(by unfold xf_;simp[h,hk1,hk0]),fun _=>hR.goes hG10,fun h0=>(by cases h0),rfl⟩
       ·exact k8_
       ·exact k5_
       ·exact k6_
       ·exact k6_
     ·simp only[Bool.not_eq_true]at hk1
      repeat' (first|refine Ctl.h ?_ |((with_reducible intro hif);first |(focus (cases hif;done)) |((try simp only[JH]at hif);try exact hy_)) |((with_reducible first|apply J22 zj_ za_|apply J23 fol zj_ za_|apply J24);(·rfl);(· (simp only[push_cast,↓JP,Nat.reduceAdd,Nat.reduceEqDiff,Nat.reduceLT,Nat.reduceMul,Nat.reduceLeDiff,reduceCtorEq,reduceIte,↓JK,↓JF,cFa,sGoes,xc_,xh_,sMeet,sHands,hX,inN,inR,y0_,↓ym_,↓yj_,ft_eq,h,hG10,hT10,hk1];rfl));(try kernel_rfl);try exact xx_)|fail)
      refine At.join (true,true,zs_ F k) ?_ ?_ ?_ rfl ?_ ?_ rfl
      ·exact⟨(by unfold xf_;simp[h,hk1,hG10,hT10]),fun _=>hR.goes hG10,fun _=>hR.targ hT10,rfl⟩
      ·exact k8_
      ·exact k5_
      ·exact k6_
      ·exact k6_
    ·-- 11
     have hG11:goesB x=true:=by rw[goesB_of hR.one,h];rfl
     have hT11:xj_ x=true:=by rw[targB_of hR.one,h];rfl
     by_cases hk1:((zs_ F k).regs x.a.toNat).is_=true
     ·by_cases hk0:((zs_ F k).regs x.a.toNat).n < 0
      ·repeat' (first|refine Ctl.h ?_ |((with_reducible intro hif);first |(focus (cases hif;done)) |((try simp only[JH]at hif);try exact hy_)) |((with_reducible first|apply J22 zj_ za_|apply J23 fol zj_ za_|apply J24);(·rfl);(· exact k87_);(try kernel_rfl);try exact xx_)|fail)
       refine At.join (false,true,zs_ F k) ?_ ?_ ?_ rfl ?_ ?_ rfl
       ·exact⟨(by unfold xf_;simp[h,hk1,hk0]),fun h0=>(by cases h0),fun _=>hR.targ hT11,rfl⟩
       ·exact k8_
       ·exact k5_
       ·exact k6_
       ·exact k6_
      ·repeat' (first|refine Ctl.h ?_ |((with_reducible intro hif);first |(focus (cases hif;done)) |((try simp only[JH]at hif);try exact hy_)) |((with_reducible first|apply J22 zj_ za_|apply J23 fol zj_ za_|apply J24);(·rfl);(· exact k87_);(try kernel_rfl);try exact xx_)|fail)
       refine At.join (true,false,zs_ F k) ?_ ?_ ?_ rfl ?_ ?_ rfl
       ·exact⟨(by unfold xf_;simp[h,hk1,hk0]),fun _=>hR.goes hG11,fun h0=>(by cases h0),rfl⟩
       ·exact k8_
       ·exact k5_
       ·exact k6_
       ·exact k6_
     ·simp only[Bool.not_eq_true]at hk1
      repeat' (first|refine Ctl.h ?_ |((with_reducible intro hif);first |(focus (cases hif;done)) |((try simp only[JH]at hif);try exact hy_)) |((with_reducible first|apply J22 zj_ za_|apply J23 fol zj_ za_|apply J24);(·rfl);(· (simp only[push_cast,↓JP,Nat.reduceAdd,Nat.reduceEqDiff,Nat.reduceLT,Nat.reduceMul,Nat.reduceLeDiff,reduceCtorEq,reduceIte,↓JK,↓JF,cFa,sGoes,xc_,xh_,sMeet,sHands,hX,inN,inR,y0_,↓ym_,↓yj_,ft_eq,h,hG11,hT11,hk1];rfl));(try kernel_rfl);try exact xx_)|fail)
      refine At.join (true,true,zs_ F k) ?_ ?_ ?_ rfl ?_ ?_ rfl
      ·exact⟨(by unfold xf_;simp[h,hk1,hG11,hT11]),fun _=>hR.goes hG11,fun _=>hR.targ hT11,rfl⟩
      ·exact k8_
      ·exact k5_
      ·exact k6_
      ·exact k6_
    ·-- a word
     have n3:¬x.op=3:=by omega
     have n4:¬x.op=4:=by omega
     have n5:¬x.op=5:=by omega
     have n7:¬x.op=7:=by omega
     have n6:¬x.op=6:=by omega
     have n8:¬x.op=8:=by omega
     have n10:¬x.op=10:=by omega
     have n11:¬x.op=11:=by omega
     have n9:¬x.op=9:=by omega
     have n1:¬x.op=1:=by omega
     have n2:¬x.op=2:=by omega
     have hG12:goesB x=true:=by rw[goesB_of hR.one];simp[n1,n2,n9]
     have hT12:xj_ x=false:=by rw[targB_of hR.one];simp[n9,n10,n11]
     have h32:32 < x.op:=by omega
     by_cases hr2:(resK x (zs_ F k).regs).2=true
     ·repeat' (first|refine Ctl.h ?_ |((with_reducible intro hif);first |(focus (cases hif;done)) |((try simp only[JH]at hif);try exact hy_)) |((with_reducible first|apply J22 zj_ za_|apply J23 fol zj_ za_|apply J24);(·rfl);(· exact k88_);(try kernel_rfl);try exact xx_)|fail)
      refine At.join (true,false,⟨(zs_ F k).reached,setK (zs_ F k).regs x.a.toNat (resK x (zs_ F k).regs).1⟩) ?_ ?_ ?_ rfl ?_ ?_ rfl
      ·exact⟨(by unfold xf_;simp[n3,n4,n5,n6,n7,n8,n10,n11,h32,hr2,hT12]),fun _=>hR.goes hG12,fun h0=>(by cases h0),rfl⟩
      ·exact k8_
      ·exact k5_
      ·exact k6_
      ·exact k6_
     ·simp only[Bool.not_eq_true]at hr2
      repeat' (first|refine Ctl.h ?_ |((with_reducible intro hif);first |(focus (cases hif;done)) |((try simp only[JH]at hif);try exact hy_)) |((with_reducible first|apply J22 zj_ za_|apply J23 fol zj_ za_|apply J24);(·rfl);(· exact k88_);(try kernel_rfl);try exact xx_)|fail)
      have hs0:scanY F (xf_ x k (zs_ F k))=none:=by unfold xf_;simp[n3,n4,n5,n6,n7,n8,n10,n11,h32,hr2,scanY]
      with_reducible apply At.itRet .ready
      ·rfl
      ·rfl
      ·intro h;cases h
      apply haft
      intro w1 M1 D1 hA
      dsimp only
      repeat' (first|refine Ctl.h ?_ |((with_reducible intro hif);first |(focus (cases hif;done)) |((try simp only[JH]at hif);try exact hy_)) |((with_reducible first|apply J22 zj_ za_|apply J23 fol zj_ za_|apply J24);(·rfl);(· exact k89_);(try kernel_rfl);try exact k85_)|fail)
      refine At.nextB hA [0,1,2,3,4] (k+1) ?_ rfl rfl rfl ?_ rfl ?_ ?_ ?_ rfl
      ·exact k78_
      ·exact k53_
      ·exact k6_
      ·exact k48_
      ·exact k6_
   rintro⟨g,t,f⟩ ⟨zh,zg,zt,zr⟩
   dsimp only at zh zg zt zr ⊢
   refine WF.seqJoin (fun _:Unit=>g=true→updF F (k+1) f=none) (fun _=>[(0,.yl 9),(2,.ptr 6 []),(3,.ptr 7 []),(7,.int .i64 (targV x)),(8,.bool t)]) (fun _=>[.gone,.gone,.ro (.arr xs.length 5 (prS xs)),.own 44 (.arr xs.length 17 (y0_ F)) true,.own 35 (.sl 3 3 [] 17 0 xs.length none) true,.gone,.own 3 (.nat .i64 k) true,.own 44 (ftS f) true,.raw (.deferred (some [])),.raw (.loop (rec .ready none))]) ?_ ?_
   ·cases g
    ·repeat' (first|refine Ctl.h ?_ |((with_reducible intro hif);first |(focus (cases hif;done)) |((try simp only[JH]at hif);try exact hy_)) |((with_reducible first|apply J22 zj_ za_|apply J23 fol zj_ za_|apply J24);(·rfl);(· exact k90_);(try kernel_rfl);try exact xx_)|fail)
     refine At.join () ?_ ?_ ?_ rfl ?_ ?_ rfl
     ·exact fun h=>by cases h
     ·exact k8_
     ·exact k5_
     ·exact k6_
     ·exact k6_
    ·have hTl:k+1 < xs.length:=zg rfl
     with_reducible apply WF.seq
     cases hrT:(zs_ F (k+1)).reached
     ·-- not reached
      have hJ:joinF (zs_ F (k+1)) f=f:=by unfold joinF;simp[hrT]
      by_cases hsm:ftB f (zs_ F (k+1))=true
      ·exact d28_
      ·simp only[Bool.not_eq_true]at hsm
       have hu:updF F (k+1) f=some (F.set (k+1) f):=by unfold updF;rw[hJ];simp[hsm]
       with_reducible apply WF.split 6 2
       ·rfl
       with_reducible apply At.run zj_ za_
       ·rfl
       ·rfl
       ·rfl
       ·exact k79_
       ·exact k80_
       with_reducible apply At.yield (gr:=_)
       ·rfl
       ·rfl
       ·rfl
       ·rfl
       ·rfl
       ·rfl
       ·exact k79_
       ·exact k81_
       ·exact k79_
       ·exact k80_
       ·exact k79_
       ·exact k80_
       ·exact k81_
       ·exact hrec
       ·exact hcf
       ·rfl
       ·rfl
       ·rfl
       intro lb E2 next hE2 hnext
       repeat' (first|refine Ctl.h ?_ |((with_reducible intro hif);first |(focus (cases hif;done)) |((try simp only[JH]at hif);try exact hy_)) |((with_reducible first|apply J22 zj_ za_|apply J23 fol zj_ za_|apply J24);(·rfl);(· exact k92_);(try kernel_rfl);try exact k91_)|fail)
       with_reducible apply At.begins hrec
       ·rfl
       with_reducible refine At.code ?_
       repeat' (first|refine Ctl.h ?_ |((with_reducible intro hif);first |(focus (cases hif;done)) |((try simp only[JH]at hif);try exact hy_)) |((with_reducible first|apply J22 zj_ za_|apply J23 fol zj_ za_|apply J24);(·rfl);(· exact k92_);(try kernel_rfl);try exact k91_)|fail)
       with_reducible apply At.roundExit
       ·exact k81_
       apply hnext
       with_reducible apply At.runEnd zj_ za_
       ·rfl
       ·rfl
       ·rfl
       ·exact k79_
       ·exact k80_
       repeat' (first|refine Ctl.h ?_ |((with_reducible intro hif);first |(focus (cases hif;done)) |((try simp only[JH]at hif);try exact hy_)) |((with_reducible first|apply J22 zj_ za_|apply J23 fol zj_ za_|apply J24);(·rfl);(· exact k92_);(try kernel_rfl);try exact k91_)|fail)
       have hs1:=scan_some hsc hre hX hkl (zh ▸ scanE_1 hu)
       have hlt:=updF_lt (by omega) (zr.trans hre) hu
       have hl:∀q,q < xs.length→SV.ite (decide (q=k+1)) (ftS f) (ftS (zs_ F q))=y0_ (F.set (k+1) f) q:=fun q hq=>ftsS_set (by omega) q
       with_reducible apply At.itRet .done
       ·rfl
       ·rfl
       ·intro h;cases h
       apply haft
       intro w1 M1 D1 hA
       dsimp only
       repeat' (first|refine Ctl.h ?_ |((with_reducible intro hif);first |(focus (cases hif;done)) |((try simp only[JH]at hif);try exact hy_)) |((with_reducible first|apply J22 zj_ za_|apply J23 fol zj_ za_|apply J24);(·rfl);(· exact k13_);(try kernel_rfl);try exact k9_)|fail)
       refine At.nextB (hBb.trans hA) [0,1,2,3,4] (F.set (k+1) f) ?_ rfl rfl rfl ?_ rfl ?_ ?_ ?_ rfl
       ·exact k82_
       ·exact k53_
       ·exact k6_
       ·exact k48_
       ·exact k6_
     ·-- reached
      have hJ:joinF (zs_ F (k+1)) f=⟨true,meetR (zs_ F (k+1)).regs f.regs⟩:=by unfold joinF;simp[hrT]
      by_cases hsm:ftB ⟨true,meetR (zs_ F (k+1)).regs f.regs⟩ (zs_ F (k+1))=true
      ·exact d28_
      ·simp only[Bool.not_eq_true]at hsm
       have hu:updF F (k+1) f=some (F.set (k+1) ⟨true,meetR (zs_ F (k+1)).regs f.regs⟩):=by unfold updF;rw[hJ];simp[hsm]
       with_reducible apply WF.split 6 2
       ·rfl
       with_reducible apply At.run zj_ za_
       ·rfl
       ·rfl
       ·rfl
       ·exact k79_
       ·exact k80_
       with_reducible apply At.yield (gr:=_)
       ·rfl
       ·rfl
       ·rfl
       ·rfl
       ·rfl
       ·rfl
       ·exact k79_
       ·exact k81_
       ·exact k79_
       ·exact k80_
       ·exact k79_
       ·exact k80_
       ·exact k81_
       ·exact hrec
       ·exact hcf
       ·rfl
       ·rfl
       ·rfl
       intro lb E2 next hE2 hnext
       repeat' (first|refine Ctl.h ?_ |((with_reducible intro hif);first |(focus (cases hif;done)) |((try simp only[JH]at hif);try exact hy_)) |((with_reducible first|apply J22 zj_ za_|apply J23 fol zj_ za_|apply J24);(·rfl);(· exact k92_);(try kernel_rfl);try exact k91_)|fail)
       with_reducible apply At.begins hrec
       ·rfl
       with_reducible refine At.code ?_
       repeat' (first|refine Ctl.h ?_ |((with_reducible intro hif);first |(focus (cases hif;done)) |((try simp only[JH]at hif);try exact hy_)) |((with_reducible first|apply J22 zj_ za_|apply J23 fol zj_ za_|apply J24);(·rfl);(· exact k92_);(try kernel_rfl);try exact k91_)|fail)
       with_reducible apply At.roundExit
       ·exact k81_
       apply hnext
       with_reducible apply At.runEnd zj_ za_
       ·rfl
       ·rfl
       ·rfl
       ·exact k79_
       ·exact k80_
       repeat' (first|refine Ctl.h ?_ |((with_reducible intro hif);first |(focus (cases hif;done)) |((try simp only[JH]at hif);try exact hy_)) |((with_reducible first|apply J22 zj_ za_|apply J23 fol zj_ za_|apply J24);(·rfl);(· exact k92_);(try kernel_rfl);try exact k91_)|fail)
       have hs1:=scan_some hsc hre hX hkl (zh ▸ scanE_1 hu)
       have hlt:=updF_lt (by omega) (zr.trans hre) hu
       have hl:∀q,q < xs.length→SV.ite (decide (q=k+1)) (ftS ⟨true,meetR (zs_ F (k+1)).regs f.regs⟩) (ftS (zs_ F q))=y0_ (F.set (k+1) ⟨true,meetR (zs_ F (k+1)).regs f.regs⟩) q:=fun q hq=>ftsS_set (by omega) q
       with_reducible apply At.itRet .done
       ·rfl
       ·rfl
       ·intro h;cases h
       apply haft
       intro w1 M1 D1 hA
       dsimp only
       repeat' (first|refine Ctl.h ?_ |((with_reducible intro hif);first |(focus (cases hif;done)) |((try simp only[JH]at hif);try exact hy_)) |((with_reducible first|apply J22 zj_ za_|apply J23 fol zj_ za_|apply J24);(·rfl);(· exact k13_);(try kernel_rfl);try exact k9_)|fail)
       refine At.nextB (hBb.trans hA) [0,1,2,3,4] (F.set (k+1) ⟨true,meetR (zs_ F (k+1)).regs f.regs⟩) ?_ rfl rfl rfl ?_ rfl ?_ ?_ ?_ rfl
       ·exact k82_
       ·exact k53_
       ·exact k6_
       ·exact k48_
       ·exact k6_
   rintro _ h1
   cases t
   ·have hs0:scanY F (xf_ x k (zs_ F k))=none:=by rw[zh];exact scanE_0 h1 (fun h=>by cases h)
    repeat' (first|refine Ctl.h ?_ |((with_reducible intro hif);first |(focus (cases hif;done)) |((try simp only[JH]at hif);try exact hy_)) |((with_reducible first|apply J22 zj_ za_|apply J23 fol zj_ za_|apply J24);(·rfl);(· exact k90_);(try kernel_rfl);try exact xx_)|fail)
    with_reducible apply At.itNormal .ready
    ·rfl
    ·rfl
    ·intro h;cases h
    apply haft
    intro w1 M1 D1 hA
    dsimp only
    repeat' (first|refine Ctl.h ?_ |((with_reducible intro hif);first |(focus (cases hif;done)) |((try simp only[JH]at hif);try exact hy_)) |((with_reducible first|apply J22 zj_ za_|apply J23 fol zj_ za_|apply J24);(·rfl);(· exact k89_);(try kernel_rfl);try exact k85_)|fail)
    refine At.nextB hA [0,1,2,3,4] (k+1) ?_ rfl rfl rfl ?_ rfl ?_ ?_ ?_ rfl
    ·exact k78_
    ·exact k53_
    ·exact k6_
    ·exact k48_
    ·exact k6_
   ·obtain⟨T,hTn⟩:∃T:Nat,targV x=T:=⟨(targV x).toNat,by have:=zt rfl;omega⟩
    have hTl:T < xs.length:=by have:=zt rfl;omega
    repeat' (first|refine Ctl.h ?_ |((with_reducible intro hif);first |(focus (cases hif;done)) |((try simp only[JH]at hif);try exact hy_)) |((with_reducible first|apply J22 zj_ za_|apply J23 fol zj_ za_|apply J24);(·rfl);(· (simp only[push_cast,↓JP,Nat.reduceAdd,Nat.reduceEqDiff,Nat.reduceLT,Nat.reduceMul,Nat.reduceLeDiff,reduceCtorEq,reduceIte,↓JK,↓JF,cFa,sGoes,xc_,xh_,sMeet,sHands,hX,inN,inR,y0_,↓ym_,↓yj_,ft_eq,hTn,Int.toNat_natCast];rfl));(try kernel_rfl);try exact xx_)|fail)
    cases hrT:(zs_ F T).reached
    ·-- not reached
     have hJ:joinF (zs_ F T) f=f:=by unfold joinF;simp[hrT]
     by_cases hsm:ftB f (zs_ F T)=true
     ·exact d29_
     ·simp only[Bool.not_eq_true]at hsm
      have hu:updF F T f=some (F.set T f):=by unfold updF;rw[hJ];simp[hsm]
      with_reducible apply WF.split 3 0
      ·rfl
      with_reducible apply At.run zj_ za_
      ·rfl
      ·rfl
      ·rfl
      ·exact k83_
      ·exact k80_
      with_reducible apply At.yield (gr:=_)
      ·rfl
      ·rfl
      ·rfl
      ·rfl
      ·rfl
      ·rfl
      ·exact k83_
      ·exact k84_
      ·exact k83_
      ·exact k80_
      ·exact k83_
      ·exact k80_
      ·exact k84_
      ·exact hrec
      ·exact hcf
      ·rfl
      ·rfl
      ·rfl
      intro lb E2 next hE2 hnext
      repeat' (first|refine Ctl.h ?_ |((with_reducible intro hif);first |(focus (cases hif;done)) |((try simp only[JH]at hif);try exact hy_)) |((with_reducible first|apply J22 zj_ za_|apply J23 fol zj_ za_|apply J24);(·rfl);(· exact k93_);(try kernel_rfl);try exact k91_)|fail)
      with_reducible apply At.begins hrec
      ·rfl
      with_reducible refine At.code ?_
      repeat' (first|refine Ctl.h ?_ |((with_reducible intro hif);first |(focus (cases hif;done)) |((try simp only[JH]at hif);try exact hy_)) |((with_reducible first|apply J22 zj_ za_|apply J23 fol zj_ za_|apply J24);(·rfl);(· exact k93_);(try kernel_rfl);try exact k91_)|fail)
      with_reducible apply At.roundExit
      ·exact k84_
      apply hnext
      with_reducible apply At.runEnd zj_ za_
      ·rfl
      ·rfl
      ·rfl
      ·exact k83_
      ·exact k80_
      repeat' (first|refine Ctl.h ?_ |((with_reducible intro hif);first |(focus (cases hif;done)) |((try simp only[JH]at hif);try exact hy_)) |((with_reducible first|apply J22 zj_ za_|apply J23 fol zj_ za_|apply J24);(·rfl);(· exact k93_);(try kernel_rfl);try exact k91_)|fail)
      have hs1:=scan_some hsc hre hX hkl (zh ▸ scanE_2 h1 hTn hu)
      have hlt:=updF_lt (by omega) (zr.trans hre) hu
      have hl:∀q,q < xs.length→SV.ite (decide (q=T)) (ftS f) (ftS (zs_ F q))=y0_ (F.set T f) q:=fun q hq=>ftsS_set (by omega) q
      with_reducible apply At.itNormal .done
      ·rfl
      ·rfl
      ·intro h;cases h
      apply haft
      intro w1 M1 D1 hA
      dsimp only
      repeat' (first|refine Ctl.h ?_ |((with_reducible intro hif);first |(focus (cases hif;done)) |((try simp only[JH]at hif);try exact hy_)) |((with_reducible first|apply J22 zj_ za_|apply J23 fol zj_ za_|apply J24);(·rfl);(· exact k13_);(try kernel_rfl);try exact k9_)|fail)
      refine At.nextB (hBb.trans hA) [0,1,2,3,4] (F.set T f) ?_ rfl rfl rfl ?_ rfl ?_ ?_ ?_ rfl
      ·exact k82_
      ·exact k53_
      ·exact k6_
      ·exact k48_
      ·exact k6_
    ·-- reached
     have hJ:joinF (zs_ F T) f=⟨true,meetR (zs_ F T).regs f.regs⟩:=by unfold joinF;simp[hrT]
     by_cases hsm:ftB ⟨true,meetR (zs_ F T).regs f.regs⟩ (zs_ F T)=true
     ·exact d29_
     ·simp only[Bool.not_eq_true]at hsm
      have hu:updF F T f=some (F.set T ⟨true,meetR (zs_ F T).regs f.regs⟩):=by unfold updF;rw[hJ];simp[hsm]
      with_reducible apply WF.split 3 0
      ·rfl
      with_reducible apply At.run zj_ za_
      ·rfl
      ·rfl
      ·rfl
      ·exact k83_
      ·exact k80_
      with_reducible apply At.yield (gr:=_)
      ·rfl
      ·rfl
      ·rfl
      ·rfl
      ·rfl
      ·rfl
      ·exact k83_
      ·exact k84_
      ·exact k83_
      ·exact k80_
      ·exact k83_
      ·exact k80_
      ·exact k84_
      ·exact hrec
      ·exact hcf
      ·rfl
      ·rfl
      ·rfl
      intro lb E2 next hE2 hnext
      repeat' (first|refine Ctl.h ?_ |((with_reducible intro hif);first |(focus (cases hif;done)) |((try simp only[JH]at hif);try exact hy_)) |((with_reducible first|apply J22 zj_ za_|apply J23 fol zj_ za_|apply J24);(·rfl);(· exact k93_);(try kernel_rfl);try exact k91_)|fail)
      with_reducible apply At.begins hrec
      ·rfl
      with_reducible refine At.code ?_
      repeat' (first|refine Ctl.h ?_ |((with_reducible intro hif);first |(focus (cases hif;done)) |((try simp only[JH]at hif);try exact hy_)) |((with_reducible first|apply J22 zj_ za_|apply J23 fol zj_ za_|apply J24);(·rfl);(· exact k93_);(try kernel_rfl);try exact k91_)|fail)
      with_reducible apply At.roundExit
      ·exact k84_
      apply hnext
      with_reducible apply At.runEnd zj_ za_
      ·rfl
      ·rfl
      ·rfl
      ·exact k83_
      ·exact k80_
      repeat' (first|refine Ctl.h ?_ |((with_reducible intro hif);first |(focus (cases hif;done)) |((try simp only[JH]at hif);try exact hy_)) |((with_reducible first|apply J22 zj_ za_|apply J23 fol zj_ za_|apply J24);(·rfl);(· exact k93_);(try kernel_rfl);try exact k91_)|fail)
      have hs1:=scan_some hsc hre hX hkl (zh ▸ scanE_2 h1 hTn hu)
      have hlt:=updF_lt (by omega) (zr.trans hre) hu
      have hl:∀q,q < xs.length→SV.ite (decide (q=T)) (ftS ⟨true,meetR (zs_ F T).regs f.regs⟩) (ftS (zs_ F q))=y0_ (F.set T ⟨true,meetR (zs_ F T).regs f.regs⟩) q:=fun q hq=>ftsS_set (by omega) q
      with_reducible apply At.itNormal .done
      ·rfl
      ·rfl
      ·intro h;cases h
      apply haft
      intro w1 M1 D1 hA
      dsimp only
      repeat' (first|refine Ctl.h ?_ |((with_reducible intro hif);first |(focus (cases hif;done)) |((try simp only[JH]at hif);try exact hy_)) |((with_reducible first|apply J22 zj_ za_|apply J23 fol zj_ za_|apply J24);(·rfl);(· exact k13_);(try kernel_rfl);try exact k9_)|fail)
      refine At.nextB (hBb.trans hA) [0,1,2,3,4] (F.set T ⟨true,meetR (zs_ F T).regs f.regs⟩) ?_ rfl rfl rfl ?_ rfl ?_ ?_ ?_ rfl
      ·exact k82_
      ·exact k53_
      ·exact k6_
      ·exact k48_
      ·exact k6_
  ·simp only[Bool.not_eq_true]at hre
   repeat' (first|refine Ctl.h ?_ |((with_reducible intro hif);first |(focus (cases hif;done)) |((try simp only[JH]at hif);try exact hy_)) |((with_reducible first|apply J22 zj_ za_|apply J23 fol zj_ za_|apply J24);(·rfl);(· (simp only[push_cast,↓JP,Nat.reduceAdd,Nat.reduceEqDiff,Nat.reduceLT,Nat.reduceMul,Nat.reduceLeDiff,reduceCtorEq,reduceIte,↓JK,↓JF,cFa,y0_,hre,hkl,inN];rfl));(try kernel_rfl);try exact k85_)|fail)
   refine At.nextB Anc.refl [0,1,2,3,4] (k+1) ?_ rfl rfl rfl ?_ rfl ?_ ?_ ?_ rfl
   ·refine⟨⟨hkl,?_⟩,by omega⟩;unfold scanK;rw[hsc];simp only[hre,Bool.false_eq_true,if_false]
   ·exact k53_
   ·exact k6_
   ·exact k48_
   ·exact k6_
 ·obtain rfl:k=xs.length:=by omega
  have hfin:=iter_end hsc hFm
  rw[hfin]
  repeat' (first|refine Ctl.h ?_ |((with_reducible intro hif);first |(focus (cases hif;done)) |((try simp only[JH]at hif);try exact hy_)) |((with_reducible first|apply J22 zj_ za_|apply J23 fol zj_ za_|apply J24);(·rfl);(· (simp only[push_cast,↓JP,Nat.reduceAdd,Nat.reduceEqDiff,Nat.reduceLT,Nat.reduceMul,Nat.reduceLeDiff,reduceCtorEq,reduceIte,↓JK,↓JF,cFa,y0_,hkl,inN];rfl));(try kernel_rfl);try exact k85_)|fail)
  apply At.endsRet za_ (fn:=Try.f56) (rs:=[.tmp 2]) (hAa.trans hBb) hro (lb_ rfl) rfl
  ·exact k3_
  ·exact k4_
  ·exact k5_
  ·rfl
  ·exact k6_
  ·exact k7_
  ·exact fun β=>rfl
  ·exact k6_
end Go.Proofs.Ytmljmabbopkpiaa.Vm
end

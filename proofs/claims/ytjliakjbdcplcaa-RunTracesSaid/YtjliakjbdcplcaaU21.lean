import Derived.Test.YtjliakjbdcplcaaU1
import Derived.Test.YtjliakjbdcplcaaU18
import Derived.Test.YtjliakjbdcplcaaU20
set_option linter.unusedSimpArgs false
set_option linter.unusedVariables false
set_option maxRecDepth 100000
set_option maxHeartbeats 4000000
section
namespace Go.Proofs.Ytjliakjbdcplcaa.Vm
open Go.RowKit
attribute [local push_cast] eqB eqBL allB prS zt_ i64S xo_ y3_ y2_ y1_ y0_ yz_ xn_ yy_ yx_ yw_ zy_ zv_ zw_ zu_ y5_ y4_ iOf JM eB prO JE inR inN ym_ memN
def rN:yr_:=fun args h m=>match args with
 | [.ptr r []]=>match h r with
  | .own t (.agg [.ptr e [],.fn fi [.ptr a [],.ptr b [],.ptr c []],.nat .i64 u,.bool w]) true=>bif Nat.beq t 125 && Nat.beq fi 44 && ym_ [0,r,e,a,b,c] && ((h e).born && (h a).born && (h b).born && (h c).born)then some (True,.bool false,[r,e,a,b,c],[(r,rB e a b c u w)])else none
  | _=>none
 | _=>none
theorem rB_ren (ρ : Nat→Nat)(e a b c u:Nat)(w:Bool):(rB e a b c u w).ren ρ = rB (ρ e) (ρ a) (ρ b) (ρ c) u w:=rfl
theorem rB_st {h:HM}{e a b c u:Nat}{w:Bool}(h1:(h e).born=true)(h2:(h a).born=true)(h3:(h b).born=true)(h4:(h c).born=true):(rB e a b c u w).stable h:=by
 simp[rB,rvS,HB.stable,Stable,zd_,h1,h2,h3,h4]
theorem bun_run {ρ : Nat→Nat}{h h':HM}{r e a b c u e' a' b' c':Nat}{w:Bool}(he:h r=rB e a b c u w)(ee:h' r=h r)(h1:ρ e'=e)(h2:ρ a'=a)(h3:ρ b'=b)(h4:ρ c'=c):Bun1 ρ (h' r) (rB e' a' b' c' u w):=by
 show Less (h' r) (.own 125 ((rvS e' a' b' c' u w).ren ρ) true)
 rw[ee,he]
 simp only[rB,rvS,SV.ren,renL,h1,h2,h3,h4]
 exact .same _
theorem rN_ok:zh_ Try.prog 46 rN:=by
 refine⟨zf_ (by kernel_rfl),fun args h m c v rd wr hs hm hc w0 M β h' w R hrd hwr hst=>?_⟩
 unfold rN at hs
 split at hs
 ·rename_i r
  split at hs
  ·rename_i t e fi a b c u w hr
   obtain⟨hb,hs⟩:=zj_ hs
   simp only[Option.some.injEq,Prod.mk.injEq]at hs
   obtain⟨rfl,rfl,rfl,rfl⟩:=hs
   simp only[Bool.and_eq_true]at hb
   obtain⟨⟨⟨b1,b2⟩,hnd⟩,⟨⟨b3,b4⟩,b5⟩,b6⟩:=hb
   have b1:=Nat.eq_of_beq_eq_true b1
   have b2:=Nat.eq_of_beq_eq_true b2
   subst b1 b2
   exact bun_ok (h:=h) (m:=m) [0,r,e,a,b,c] (rnone_lit u w) R rfl (by simp) rfl rfl hnd
    ⟨Fit.gone (by rw[R.nil0];rfl),bun_run hr (hrd r (by simp)) rfl rfl rfl rfl,Fit.gone (by rw[hrd e (by simp)];exact b3),Fit.gone (by rw[hrd a (by simp)];exact b4),Fit.gone (by rw[hrd b (by simp)];exact b5),Fit.gone (by rw[hrd c (by simp)];exact b6),trivial⟩ hm
    (fun p hp=>by cases hp) (by simp) rfl
    ⟨trivial,rB_st rfl rfl rfl rfl,trivial,trivial,trivial,trivial,trivial⟩ ⟨rfl,trivial⟩
    ⟨trivial,rB_st rfl rfl rfl rfl,trivial,trivial,trivial,trivial,trivial⟩ trivial rfl rfl rfl
  ·cases hs
 ·cases hs
def cGo:FuncId→Option yr_:=xb_ [(46,rN),(47,sRRight),(48,sSteps),(74,eEnded),(75,eAt),(76,eStep),(49,xp_)]
theorem zp_:∀f S,cGo f=some S→zh_ Try.prog f S:=zn_ ⟨rN_ok,sRRight_ok,sSteps_ok,eEnded_ok,eAt_ok,eStep_ok,eState_ok,trivial⟩
theorem goF_lit (P:List Ins)(s:Sta)(v:Evi)(x0:Ins)(u:Nat)(f:Int)(hP:PG P)(V:VOk v)(hG:SG P s)(hu:u≤4611686018427387904)(hf0:0≤f)(hf1:f≤4096)(r:RR)(hr:runA P v f.toNat s x0 [] 0=r):yc_ Try.prog 17 [.ptr 1 [],.int .i64 f] [.gone,rB 2 7 8 9 u false,eB 3 6 P.length,mB s v x0 4 5,cB s,sB s,prO P,.gone,.gone,.gone]
  (.tup [.bool (decide (r.bad=0)),.int .i64 (if r.bad=190 then 0 else r.bad)]) [.gone,rB 2 7 8 9 (u+r.tr.length) (decide (r.bad≠0) && decide (r.bad≠190)),eB 3 6 P.length,mB r.s v r.x 4 10,cB r.s,.gone,prO P,.gone,.gone,.gone,sB r.s]:=by
 have hrr:rrE f=0:=by unfold rrE;rw[if_neg (by omega)]
 refine zm_ (fn:=Try.f17) 10 44 0 rfl rfl rfl rfl rfl u9_ rfl fun w0 M E hro=>?_
 repeat' (first|refine Ctl.h ?_ |((with_reducible intro hif);first |(focus (cases hif;done)) |((try simp only[JH]at hif);try exact hy_)) |((with_reducible first|apply J22 zp_ za_|apply J23 fol zp_ za_|apply J24);(·rfl);(· exact k69_);(try kernel_rfl);try exact z9_)|fail)
 with_reducible apply WF.range (fn':=Try.f73) 28
 ·exact k42_
 ·exact yq_
 ·rfl
 ·rfl
 ·rfl
 ·rfl
 ·rfl
 ·rfl
 ·rfl
 intro E1 rec tmps after hE1 hrec hcf haft
 repeat' (first|refine Ctl.h ?_ |((with_reducible intro hif);first |(focus (cases hif;done)) |((try simp only[JH]at hif);try exact hy_)) |((with_reducible first|apply J22 zp_ za_|apply J23 fol zp_ za_|apply J24);(·rfl);(· exact k70_);(try kernel_rfl);try exact z9_)|fail)
 refine At.pick (L2:=[.gone,rB 2 7 8 9 (u+0) false,eB 3 6 P.length,mB s v x0 4 17,cB s,.gone,prO P,.gone,.gone,.gone,.own 52 (.ptr 1 []) true,.own 4 (.bool false) true,.own 46 (.nat .i64 0) true,pbB 2,fbB f,.raw (.deferred (some [])),.raw (.loop (rec .ready none)),sB s]) (φ2:=[(0,.yl 16),(1,.ptr 13 []),(2,.ptr 14 []),(4,.nat .i64 0)]) [0,1,2,3,4,5,6,7,8,9,10,11,12,13,14,15,16,5] rfl rfl rfl ?_ rfl ?_ ?_ ?_ rfl ?_
 ·exact k24_
 ·exact k59_
 ·exact k45_
 ·exact k59_
 refine WF.loopAt (fun (z:RS)=>RInv P v f r z) (fun (z:RS)=>[(0,.yl 16),(1,.ptr 13 []),(2,.ptr 14 []),(4,.nat .i64 z.k)]) (fun (z:RS)=>[.gone,rB 2 7 8 9 (u+z.k) false,eB 3 6 P.length,mB z.s v z.x 4 17,cB z.s,.gone,prO P,.gone,.gone,.gone,.own 52 (.ptr 1 []) true,.own 4 (.bool false) true,.own 46 (.nat .i64 0) true,pbB 2,fbB f,.raw (.deferred (some [])),.raw (.loop (rec .ready none)),sB z.s]) (fun (z:RS)=>f.toNat - z.k) ⟨0,s,x0,[],0⟩ ⟨Nat.zero_le _,hG,rfl,hr⟩ ?_ ?_ rfl ?_ ?_ rfl ?_
 ·exact k28_
 ·exact k7_
 ·exact k59_
 ·exact k59_
 rintro⟨k,⟨at1,en,rg,ce,dr,se⟩,x,tr,a⟩ ⟨hk,hg,hl,hr1⟩
 dsimp only at hk hg hl hr1 ⊢
 cases en
 ·exact d23_
 ·exact d28_
end Go.Proofs.Ytjliakjbdcplcaa.Vm
end
section
open Go.Proofs.Ytjliakjbdcplcaa.Vm Go.RowKit
attribute [local push_cast] eqB eqBL allB prS zt_ i64S xo_ y3_ y2_ y1_ y0_ yz_ xn_ yy_ yx_ yw_ zy_ zv_ zw_ zu_ y5_ y4_ iOf
section
namespace Go.Proofs.Ytjliakjbdcplcaa.Vm
open Go.RowKit
def cRu:FuncId→Option yr_:=xb_ [(46,rN),(47,sRRight),(49,xp_)]
theorem cRu_ok:∀f S,cRu f=some S→zh_ Try.prog f S:=zn_ ⟨rN_ok,sRRight_ok,eState_ok,trivial⟩
theorem used_lit (u:Nat)(w:Bool):yc_ Try.prog 19 [.ptr 1 []] [.gone,rB 2 3 4 5 u w,.gone,.gone,.gone,.gone] (.nat .i64 u) [.gone,rB 2 3 4 5 u w,.gone,.gone,.gone,.gone]:=by
 refine zm_ (fn:=Try.f19) 6 9 0 rfl rfl rfl rfl rfl (by simp only[zd_,Stable,hp,i64S,prS,insS,zt_,sndS,stS,evS,macS,mB,cB,sB,eB,prO,prR,pbB,fbB,rB,rvS,HB.stable];simp[HB.born,rB,rvS]) rfl fun w0 M E hro=>?_
 repeat' (first|refine Ctl.h ?_ |((with_reducible intro hif);first |(focus (cases hif;done)) |((try simp only[JH]at hif);try exact hy_)) |((with_reducible first|apply J22 cRu_ok za_|apply J23 fol cRu_ok za_|apply J24);(·rfl);(· (simp only[push_cast,↓JP,Nat.reduceAdd,Nat.reduceEqDiff,Nat.reduceLT,Nat.reduceMul,Nat.reduceLeDiff,reduceCtorEq,reduceIte,↓JK,cRu,rB,rvS,rN,ym_,memN,inR,inN];rfl));(try kernel_rfl);try exact k12_)|fail)
 apply At.endsPick [0,1,2,3,4,5] za_ (fn:=Try.f19) (rs:=[.tmp 2]) Anc.refl hro (lb_ rfl) rfl
 ·exact k5_
 ·exact yq_
 ·rfl
 ·rfl
 ·rfl
 ·exact k24_
 ·rfl
 ·exact k59_
 ·exact k9_
 ·exact fun β=>rfl
 ·exact k59_
theorem rstate_lit (P:List Ins)(s:Sta)(v:Evi)(x:Ins)(u:Nat)(w:Bool)(hc:s.cells.length≤1000000)(hs:s.sends.length≤1000000):yc_ Try.prog 18 [.ptr 1 []] [.gone,rB 2 7 8 9 u w,eB 3 6 P.length,mB s v x 4 5,cB s,sB s,prO P,.gone,.gone,.gone] (stS s 10 11) [.gone,rB 2 7 8 9 u w,eB 3 6 P.length,mB s v x 4 5,cB s,sB s,prO P,.gone,.gone,.gone,cB s,sB s]:=by
 refine zm_ (fn:=Try.f18) 10 11 0 rfl rfl rfl rfl rfl u9_ rfl fun w0 M E hro=>?_
 repeat' (first|refine Ctl.h ?_ |((with_reducible intro hif);first |(focus (cases hif;done)) |((try simp only[JH]at hif);try exact hy_)) |((with_reducible first|apply J22 cRu_ok za_|apply J23 fol cRu_ok za_|apply J24);(·rfl);(· (simp only[push_cast,↓JP,Nat.reduceAdd,Nat.reduceEqDiff,Nat.reduceLT,Nat.reduceMul,Nat.reduceLeDiff,reduceCtorEq,reduceIte,↓JK,cRu,JM,JE,rB,rvS,eB,prO,rN,engP,prP,macP,xp_,ym_,memN,inR,inN];rfl));(try kernel_rfl);try exact k12_)|fail)
 apply At.endsPick [0,1,2,3,4,5,6,7,8,9,11,12] za_ (fn:=Try.f18) (rs:=[.cell 2 58]) Anc.refl hro (lb_ rfl) rfl
 ·exact k5_
 ·exact yq_
 ·rfl
 ·rfl
 ·rfl
 ·exact k24_
 ·rfl
 ·exact k59_
 ·exact k9_
 ·exact fun β=>rfl
 ·exact k59_
end Go.Proofs.Ytjliakjbdcplcaa.Vm
end
section
namespace Go.Proofs.Ytjliakjbdcplcaa.Vm
open Go.RowKit
def fsS (s:Sta)(j:Nat):SV:=.agg [.int .i64 s.at_,.bool s.ended,.arr 8 1 (fun q=>.int .i64 (s.regs q)),.sl j j [] 1 0 s.cells.length none,.int .i64 s.draws,.sl 0 0 [] 0 0 0 (some 0)]
def clA (i n:Nat):HB:=.own 35 (.sl i i [] 5 0 n none) true
def clB (v:Evi):HB:=.own 30 (evS v) true
def clC (s:Sta)(j:Nat):HB:=.own 58 (fsS s j) true
def cB4:FuncId→Option yr_:=xb_ [(45,sOnG)]
theorem cB4_ok:∀f S,cB4 f=some S→zh_ Try.prog f S:=zn_ ⟨sOnG_ok,trivial⟩
theorem beg_good (P:List Ins)(v:Evi)(s:Sta)(hs:s.sends=[])(hP:∀x∈P,x.ok)(hn:P.length≤1000000)(hc:s.cells.length≤1000000)(hE:openE P v s=0):yc_ Try.prog 44 [.ptr 1 [],.ptr 2 [],.ptr 3 []] [.gone,.ro (.sl 4 4 [] 5 0 P.length none),.ro (evS v),.ro (fsS s 5),prR P,.ro (.arr s.cells.length 1 (i64S s.cells))]
  (.tup [.ptr 6 [],.int .i64 0]) [.gone,.gone,.gone,.gone,.gone,.gone,eB 7 10 P.length,mB s v Ins0 8 9,cB s,sB s,prO P]:=by
 obtain⟨a0,e0,rg,cs,d,n0⟩:=s
 dsimp only at hs hc
 subst hs
 refine zm_ (fn:=Try.f44) 6 11 0 rfl rfl rfl rfl rfl (by simp only[zd_,Stable,hp,i64S,prS,insS,zt_,sndS,stS,evS,macS,mB,cB,sB,eB,prO,prR,pbB,fbB,rB,rvS,clA,clB,clC,fsS,HB.stable];simp[HB.born]) rfl fun w0 M E hro=>?_
 repeat' (first|refine Ctl.h ?_ |((with_reducible intro hif);first |(focus (cases hif;done)) |((try simp only[JH]at hif);try exact hy_)) |((with_reducible first|apply J22 cB4_ok za_|apply J23 fol cB4_ok za_|apply J24);(·rfl);(· (simp only[push_cast,↓JP,Nat.reduceAdd,Nat.reduceEqDiff,Nat.reduceLT,Nat.reduceMul,Nat.reduceLeDiff,reduceCtorEq,reduceIte,↓JK,JM,JE,JB,cB4,fsS,prR,sOnG,inR,inN,hE];rfl));(try kernel_rfl);(try (focus (first|exact True.intro |((try simp only[JS,implies_true,forall_const,z3_,z5_,kndOf,inR,inN]);(first|first|omega|exact⟨hP,hn,hc⟩ |(repeat' (first|assumption|exact True.intro|omega|apply And.intro)));done)))))|fail)
 apply At.endsPick [0,1,2,3,4,5,6,7,8,9,10] za_ (fn:=Try.f44) (rs:=[.tmp 3,.tmp 4]) Anc.refl hro (lb_ rfl) rfl
 ·exact k5_
 ·exact yq_
 ·rfl
 ·rfl
 ·rfl
 ·exact k24_
 ·rfl
 ·exact k68_
 ·exact k9_
 ·exact fun β=>rfl
 ·exact k68_
def clP (h:HM)(a b c:Nat):Option (List Ins×Evi×Sta×Nat×Nat×Prop):=match h a with
 | .own ta (.sl z i [] 5 0 n none) true=>match h b with
  | .own tb (.agg [.int .u64 e0,.int .i64 e1,.int .i64 e2,.int .i64 e3,.int .i64 e4]) true=>match h c with
   | .own tc (.agg [.int .i64 s0,.bool s1,.arr 8 1 rg,.sl z2 j [] 1 0 nc none,.int .i64 s4,.sl 0 0 [] 0 0 0 (some 0)]) true=>match prP h i,h j with
    | some (n',P,ok2),.own tj (.arr nj 1 cf) false=>bif Nat.beq z i && Nat.beq n n' && Nat.beq z2 j && Nat.beq nc nj && Nat.beq ta 35 && Nat.beq tb 30 && Nat.beq tc 58 && Nat.beq tj 2 then
      some (P,⟨e0,e1,e2,e3,e4⟩,⟨s0,s1,fun q=>iOf (rg q),ls iOf nj cf,s4,[]⟩,i,j,ok2∧(∀q,q < 8→isI .i64 (rg q)=true)∧∀q,q < nj→isI .i64 (cf q)=true)else none
    | _,_=>none
   | _=>none
  | _=>none
 | _=>none
section
variable {ρ : Nat→Nat} {h h':HM} {a b c i j x y:Nat} {s:Sta} {v:Evi} {P:List Ins} {ok:Prop}
theorem clP_val (hp:clP h a b c=some (P,v,s,i,j,ok)):s.sends=[]∧∃ok2 rg cf,ok=(ok2∧(∀q,q < 8→isI .i64 (rg q)=true)∧∀q,q < s.cells.length→isI .i64 (cf q)=true)∧prP h i=some (P.length,P,ok2)∧h a=clA i P.length∧h b=clB v∧h c=.own 58 (.agg [.int .i64 s.at_,.bool s.ended,.arr 8 1 rg,.sl j j [] 1 0 s.cells.length none,.int .i64 s.draws,.sl 0 0 [] 0 0 0 (some 0)]) true∧h j=.own 2 (.arr s.cells.length 1 cf) false∧(∀q,s.regs q=iOf (rg q))∧s.cells=ls iOf s.cells.length cf:=by
 unfold clP at hp
 split at hp
 ·rename_i ta z i n ha
  split at hp
  ·rename_i tb e0 e1 e2 e3 e4 hb
   split at hp
   ·rename_i tc s0 s1 rg z2 j nc s4 hc
    split at hp
    ·rename_i n' P ok2 tj nj cf hpp hj
     obtain⟨hbb,hs⟩:=zj_ hp
     simp only[Option.some.injEq,Prod.mk.injEq]at hs
     obtain⟨rfl,rfl,rfl,rfl,rfl,rfl⟩:=hs
     simp only[Bool.and_eq_true]at hbb
     obtain⟨⟨⟨⟨⟨⟨⟨b1,b2⟩,b3⟩,b4⟩,b5⟩,b6⟩,b7⟩,b8⟩:=hbb
     have b1:=Nat.eq_of_beq_eq_true b1
     have b2:=Nat.eq_of_beq_eq_true b2
     have b3:=Nat.eq_of_beq_eq_true b3
     have b4:=Nat.eq_of_beq_eq_true b4
     have b5:=Nat.eq_of_beq_eq_true b5
     have b6:=Nat.eq_of_beq_eq_true b6
     have b7:=Nat.eq_of_beq_eq_true b7
     have b8:=Nat.eq_of_beq_eq_true b8
     subst b1 b2 b3 b4 b5 b6 b7 b8
     have hl:=prP_len hpp
     subst hl
     refine⟨rfl,ok2,rg,cf,?_,hpp,ha,hb,?_,?_,fun _=>rfl,?_⟩
     ·dsimp only;rw[zb_]
     ·dsimp only;rw[zb_];exact hc
     ·dsimp only;rw[zb_];exact hj
     ·dsimp only;rw[zb_]
    ·cases hp
   ·cases hp
  ·cases hp
 ·cases hp
theorem bun_clC {rg:Nat→SV}(hc:h c=.own 58 (.agg [.int .i64 s.at_,.bool s.ended,.arr 8 1 rg,.sl j j [] 1 0 s.cells.length none,.int .i64 s.draws,.sl 0 0 [] 0 0 0 (some 0)]) true)(hr:∀q,q < 8→isI .i64 (rg q)=true)(hq:∀q,s.regs q=iOf (rg q))(ec:h' c=h c)(h0:ρ 0=0)(hx:ρ x=j):Bun1 ρ (h' c) (.ro (fsS s x))∧Bun1 ρ (h' c) (clC s x):=by
 have hcl:∀β,(SV.agg [.int .i64 s.at_,.bool s.ended,.arr 8 1 rg,.sl j j [] 1 0 s.cells.length none,.int .i64 s.draws,.sl 0 0 [] 0 0 0 (some 0)]).cl β =((fsS s x).ren ρ).cl β:=fun β=>by
  have h8:(SV.arr 8 1 rg).cl β =(SV.arr 8 1 fun q=>.int .i64 (s.regs q)).cl β:=arrCl fun q hq'=>by rw[isI_cl (hr q hq'),hq];rfl
  simp only[fsS,SV.ren,renL,hx,h0,cl_agg,yf_,clL_nil,h8]
 constructor
 ·exact Fit.ro (by rw[ec,hc];rfl) hcl (fun n k f e=>by cases e)
 ·show Less (h' c) (.own 58 ((fsS s x).ren ρ) true)
  rw[ec,hc]
  exact .val hcl (fun n k f e=>by cases e) (fun n k f e=>by cases e)
theorem bun_clJ {cf:Nat→SV}(hj:h j=.own 2 (.arr s.cells.length 1 cf) false)(hr:∀q,q < s.cells.length→isI .i64 (cf q)=true)(hq:s.cells=ls iOf s.cells.length cf)(ej:h' j=h j):Bun1 ρ (h' j) (.ro (.arr s.cells.length 1 (i64S s.cells))):=by
 refine Fit.ro (u:=.arr s.cells.length 1 cf) (by rw[ej,hj];rfl) (fun β=>arrCl fun q hlt=>?_) (fun n k f e=>by injection e with e1 e2 e3;subst e1 e2;exact⟨_,rfl⟩)
 rw[isI_cl (hr q hlt)]
 unfold i64S
 rw[hq,ls_getD hlt];rfl
end
end Go.Proofs.Ytjliakjbdcplcaa.Vm
end
section
namespace Go.Proofs.Ytjliakjbdcplcaa.Vm
open Go.RowKit
theorem evR_st {h:HM}{v:Evi}:(HB.ro (evS v)).stable h:=by simp[HB.stable,evS,Stable,zd_]
theorem fsR_st {h:HM}{s:Sta}{j:Nat}(h0:(h 0).born=true)(hj:(h j).born=true):(HB.ro (fsS s j)).stable h:=by simp[HB.stable,fsS,Stable,zd_,h0,hj]
theorem clA_st {h:HM}{i n:Nat}(hi:(h i).born=true):(clA i n).stable h:=⟨hi,hi⟩
theorem clB_st {h:HM}{v:Evi}:(clB v).stable h:=by simp[clB,HB.stable,evS,Stable,zd_]
theorem clC_st {h:HM}{s:Sta}{j:Nat}(h0:(h 0).born=true)(hj:(h j).born=true):(clC s j).stable h:=by simp[clC,HB.stable,fsS,Stable,zd_,h0,hj]
def sBgG:yr_:=fun args h m=>match args with
 | [.ptr a [],.ptr b [],.ptr c []]=>match clP h a b c with
  | some (P,v,s,i,j,ok)=>bif ym_ [0,a,b,c,i,j] then some (ok∧(∀x∈P,x.ok)∧P.length≤1000000∧s.cells.length≤1000000∧openE P v s=0,.tup [.ptr m [],.int .i64 0],[a,b,c,i,j],[(m,eB (m+1) (m+4) P.length),(m+1,mB s v Ins0 (m+2) (m+3)),(m+2,cB s),(m+3,sB s),(m+4,prO P)])else none
  | none=>none
 | _=>none
theorem sBgG_ok:zh_ Try.prog 44 sBgG:=by
 refine⟨zf_ (by kernel_rfl),fun args h m c v rd wr hs hm hc w0 M β h' w R hrd hwr hst=>?_⟩
 unfold sBgG at hs
 split at hs
 ·rename_i a b c
  split at hs
  ·rename_i P v s i j ok hcp
   obtain⟨hnd,hs⟩:=zj_ hs
   simp only[Option.some.injEq,Prod.mk.injEq]at hs
   obtain⟨rfl,rfl,rfl,rfl⟩:=hs
   obtain⟨hs0,ok2,rg,cf,rfl,hpp,ha,hb,hcc,hj,hq,hql⟩:=clP_val hcp
   obtain⟨⟨hok2,hrg,hcf⟩,hP,hn,hcl,hE⟩:=hc
   have ea:=hrd a (by simp)
   have eb:=hrd b (by simp)
   have ec:=hrd c (by simp)
   have ei:=hrd i (by simp)
   have ej:=hrd j (by simp)
   exact bun_ok (h:=h) (m:=m) [0,a,b,c,i,j] (beg_good P v s hs0 hP hn hcl hE) R rfl (by simp) rfl rfl hnd
    ⟨Fit.gone (by rw[R.nil0];rfl),Fit.ro (u:=.sl i i [] 5 0 P.length none) (by rw[ea,ha];rfl) (fun β=>rfl) (fun n k f e=>by cases e),Fit.ro (u:=evS v) (by rw[eb,hb];rfl) (fun β=>rfl) (fun n k f e=>by cases e),(bun_clC hcc hrg hq ec rfl rfl).1,bun_pr hpp hok2 ei,bun_clJ hj hcf hql ej,trivial⟩ hm
    (fun p hp=>by
     simp only[newB,List.drop,List.length_cons,List.length_nil,List.mem_cons,List.not_mem_nil,or_false]at hp
     rcases hp with rfl|rfl|rfl|rfl|rfl
     ·exact hwr (m,eB (m+1) (m+4) P.length) (by simp)
     ·exact hwr (m+1,mB s v Ins0 (m+2) (m+3)) (by simp)
     ·exact hwr (m+2,cB s) (by simp)
     ·exact hwr (m+3,sB s) (by simp)
     ·exact hwr (m+4,prO P) (by simp)) (by simp) rfl
    ⟨trivial,⟨rfl,rfl⟩,evR_st,fsR_st rfl rfl,prR_st,celR_st,trivial⟩ ⟨rfl,rfl,rfl,trivial⟩
    ⟨trivial,⟨rfl,rfl⟩,evR_st,fsR_st rfl rfl,prR_st,celR_st,eB_st rfl rfl,mB_st rfl rfl,cB_st,sB_st,prO_st,trivial⟩ (⟨rfl,trivial,trivial⟩) rfl (by simp[SV.ren,renL,y6_]) (by show [(m,(eB 7 10 _).ren _),(m+1,(mB s v Ins0 8 9).ren _),(m+2,(cB s).ren _),(m+3,(sB s).ren _),(m+4,(prO P).ren _)]=_;rw[eB_ren,mB_ren,cB_ren,sB_ren,prO_ren];simp[y6_])
  ·cases hs
 ·cases hs
def cNw:FuncId→Option yr_:=xb_ [(43,sClI),(24,sBegin),(44,sBgG)]
theorem cNw_ok:∀f S,cNw f=some S→zh_ Try.prog f S:=zn_ ⟨sClI_ok,sBegin_ok,sBgG_ok,trivial⟩
theorem new_good (P:List Ins)(v:Evi)(t s q o y d:Int)(cs:List Int)(p1 p2:Nat)(hP:∀x∈P,x.ok)(hn:P.length≤1000000)(hc:cs.length≤1000000)(hE:openE P v (ya_ y t s cs d)=0):yc_ Try.prog 16 [.sl 1 2 [] 5 0 P.length (some p1),.agg [.int .u64 v.seed,.int .i64 v.process,.int .i64 v.ports,.int .i64 v.look,.int .i64 v.now],.agg [.agg [.int .i64 t,.int .i64 s,.int .i64 q],.int .i64 o,.int .i64 y],.sl 3 4 [] 1 0 cs.length (some p2),.int .i64 d]
  [.gone,.gone,.ro (.arr P.length 5 (prS P)),.gone,.ro (.arr cs.length 1 (i64S cs))]
  (.tup [.ptr 5 [],.int .i64 0]) [.gone,.gone,.gone,.gone,.gone,rB 6 11 12 13 0 false,eB 7 10 P.length,mB (ya_ y t s cs d) v Ins0 8 9,cB (ya_ y t s cs d),sB (ya_ y t s cs d),prO P,clA 14 P.length,clB v,clC (ya_ y t s cs d) 15,prO P,cB (ya_ y t s cs d)]:=by
 refine zm_ (fn:=Try.f16) 5 36 0 rfl rfl rfl rfl rfl (by simp only[zd_,Stable,hp,i64S,prS,insS,zt_,sndS,stS,evS,macS,mB,cB,sB,eB,prO,prR,pbB,fbB,rB,rvS,clA,clB,clC,fsS,HB.stable];simp[HB.born]) rfl fun w0 M E hro=>?_
 repeat' (first|refine Ctl.h ?_ |((with_reducible intro hif);first |(focus (cases hif;done)) |((try simp only[JH]at hif);try exact hy_)) |((with_reducible first|apply J22 cNw_ok za_|apply J23 fol cNw_ok za_|apply J24);(·rfl);(· (simp only[push_cast,↓JP,Nat.reduceAdd,Nat.reduceEqDiff,Nat.reduceLT,Nat.reduceMul,Nat.reduceLeDiff,reduceCtorEq,reduceIte,↓JK,cNw,sBgG,JE,JB,sClI,sBegin,clP,prP,ym_,memN,inR,inN,hE];rfl));(try kernel_rfl);(try (focus (first|exact True.intro |((try simp only[JS,implies_true,forall_const,z3_,z5_,kndOf,inR,inN]);(first|first|omega|exact⟨fun q _=>rfl,hn⟩|exact⟨hP,hn,hc⟩|exact⟨hP,hn,hc,hE⟩ |(repeat' (first|assumption|exact True.intro|omega|apply And.intro)));done)))))|fail)
 apply At.endsPick [0,1,2,3,4,16,11,12,13,14,15,9,5,10,7,8] za_ (fn:=Try.f16) (rs:=[.tmp 10,.tmp 11]) Anc.refl hro (lb_ rfl) rfl
 ·exact k5_
 ·exact yq_
 ·rfl
 ·rfl
 ·rfl
 ·exact k24_
 ·rfl
 ·exact k68_
 ·exact k9_
 ·exact fun β=>rfl
 ·exact k68_
end Go.Proofs.Ytjliakjbdcplcaa.Vm
end
end

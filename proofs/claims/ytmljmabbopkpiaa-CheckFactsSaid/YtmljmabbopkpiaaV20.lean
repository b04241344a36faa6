import Derived.Test.YtmljmabbopkpiaaV1
import Derived.Test.YtmljmabbopkpiaaV12
import Derived.Test.YtmljmabbopkpiaaV19
set_option linter.unusedSimpArgs false
set_option linter.unusedVariables false
set_option maxRecDepth 100000
set_option maxHeartbeats 4000000
section
namespace Go.Proofs.Ytmljmabbopkpiaa.Vm
open Go.RowKit
attribute [local push_cast] eqB eqBL allB prS sndsS i64S nav_ins nav_ins0 nav_ins1 nav_ins2 nav_ins3 nav_ins4 nav_snd nav_snd0 nav_snd1 nav_snd2 yz_ zf_ yy_ yx_ isI_int isI_nat iOf nav_k nav_k0 nav_k1 nav_ka nav_kai nav_ft nav_ft0 nav_ft1 isKn_kS knOf_kS isKa_kaS kaOf_kaS isFt_ftS ftOf_ftS setp_ka setp_ftk setp_ftr setp_fti evm_ins evm_snd evm_k evm_ka evm_ft
theorem whys_lit (n p:Nat)(a b c:Int):LitOk Try.prog 83 [.agg [.int .i64 a,.int .i64 b,.int .i64 c],.sl 1 2 [] 5 0 n (some p)] [.gone,.gone,.gone] (.fn 117 [.ptr 4 [],.ptr 3 []]) [.gone,.gone,.gone,.own 31 (.agg [.int .i64 a,.int .i64 b,.int .i64 c]) true,.own 25 (.sl 1 2 [] 5 0 n (some p)) true]:=by
 refine litOkM (fn:=Try.f83) 3 6 0 rfl rfl rfl rfl rfl u2_ rfl fun w0 M E hro=>?_
 repeat' (first|refine Ctl.h ?_ |((with_reducible intro hif);first |(focus (cases hif;done)) |((try simp only[JH]at hif);try exact hy_)) |((with_reducible first|apply J22 yc_ za_|apply J23 fol yc_ za_|apply J24);(·rfl);(· exact k66_);(try kernel_rfl);try exact k11_)|fail)
 apply At.endsRet za_ (fn:=Try.f83) (rs:=[.tmp 4]) Anc.refl hro (lb_ rfl) rfl
 ·exact k62_
 ·exact k4_
 ·exact k5_
 ·rfl
 ·exact k93_
 ·exact k7_
 ·exact fun β=>rfl
 ·exact k93_
def sWhys:Spec:=fun args h m=>match args with
 | [.agg [.int .i64 a,.int .i64 b,.int .i64 c],.sl z i [] 5 0 n (some p)]=>bif (h z).born && (h i).born then some (True,.fn 117 [.ptr (m+1) [],.ptr m []],[z,i],[(m,.own 31 (.agg [.int .i64 a,.int .i64 b,.int .i64 c]) true),(m+1,.own 25 (.sl z i [] 5 0 n (some p)) true)])else none
 | _=>none
theorem sWhys_ok:zs_ Try.prog 83 sWhys:=by
 refine⟨zp_ (by kernel_rfl),fun args h m c v rd wr hs hm hc w0 M β h' w R hrd hwr hst=>?_⟩
 unfold sWhys at hs
 split at hs
 ·rename_i a b c z i n p
  obtain⟨hb,hs2⟩:=zq_ hs
  clear hs
  simp only[Bool.and_eq_true]at hb
  obtain⟨hz,hi⟩:=hb
  simp only[Option.some.injEq,Prod.mk.injEq]at hs2
  obtain⟨rfl,rfl,rfl,rfl⟩:=hs2
  have ei:h' i=h i:=hrd i (by simp)
  have ez:h' z=h z:=hrd z (by simp)
  have C:=callG (L1:=[.gone,.gone,.gone,.own 31 (.agg [.int .i64 a,.int .i64 b,.int .i64 c]) true,.own 25 (.sl 1 2 [] 5 0 n (some p)) true]) (h:=h) (m:=m) [0,z,i] (whys_lit n p a b c) R rfl (by simp) rfl rfl rfl
   ⟨.gone (by rw[R.nil0];rfl),.gone (by rw[ez];exact hz),.gone (by rw[ei];exact hi),trivial⟩ hm (by simpa [newB,rhoL,HB.ren,SV.ren,renL]using hwr) (by simp)
   (by simp[yt_,HB.stable]) (by simp[zd_,zb_,hp,HB.born]) (by simp[NewL,HB.stable,zb_,zd_,HB.isRo,hG,hp,HB.born]) (by simp[zb_,zd_,hG,hp,HB.born])
  have e0:renL (rhoL [0,z,i] m) [SV.agg [.int .i64 a,.int .i64 b,.int .i64 c],.sl 1 2 [] 5 0 n (some p)]=[.agg [.int .i64 a,.int .i64 b,.int .i64 c],.sl z i [] 5 0 n (some p)]:=by simp[renL,SV.ren,rhoL]
  rw[e0]at C
  refine C.mono fun e w' he=>?_
  simpa [newB,rhoL,HB.ren,SV.ren,renL]using he
 ·cases hs
def cWys:FuncId→Option Spec:=look2 [(56,sFactsI),(57,sFits),(58,sWhyL),(83,sWhys)]
theorem zh_:∀f S,cWys f=some S→zs_ Try.prog f S:=yi_ ⟨sFactsI_ok,sFits_ok,sWhyL_ok,sWhys_ok,trivial⟩
def doomK (xs:List Ins)(F:List Ft)(c p l:Int):Nat→List Int
 | 0=>[]
 | k+1=>doomK xs F c p l k++(if whyE c p l (xs.getD k ⟨0,0,0,0,0⟩) (z6_ F k)≠0 then [(k:Int)] else [])
theorem doom_len (xs:List Ins)(F:List Ft)(c p l:Int):∀k,(doomK xs F c p l k).length≤k
 | 0=>by simp[doomK]
 | k+1=>by
  have:=doom_len xs F c p l k
  unfold doomK
  split<;>simp<;>omega
theorem Doomed_lit (xs:List Ins)(p1:Nat)(c p l:Int)(hx:∀x∈xs,x.ok)(hc:(z7_ xs).2=0)(hl:limB c p l=true):LitOk Try.prog 34 [.sl 1 2 [] 5 0 xs.length (some p1),.agg [.int .i64 c,.int .i64 p,.int .i64 l]] [.gone,.gone,.ro (.arr xs.length 5 (prS xs))]
  (.tup [nilOr (doomK xs (z1_ xs) c p l xs.length) 3,.int .i64 0]) [.gone,.gone,.gone,.own 3 (.arr (doomK xs (z1_ xs) c p l xs.length).length 1 (i64S (doomK xs (z1_ xs) c p l xs.length))) false]:=by
 refine litOkM (fn:=Try.f34) 3 25 0 rfl rfl rfl rfl rfl u2_ rfl fun w0 M E hro=>?_
 have hl6:xs.length≤256:=(ys_ hc).2.1
 have hfit:fitE xs c p l=0:=by unfold fitE;rw[if_pos hc,if_pos hl]
 obtain⟨F,hF⟩:∃F,F=z1_ xs:=⟨_,rfl⟩
 rw[←hF]
 repeat' (first|refine Ctl.h ?_ |((with_reducible intro hif);first |(focus (cases hif;done)) |((try simp only[JH]at hif);try exact hy_)) |((with_reducible first|apply J22 zh_ za_|apply J23 fol zh_ za_|apply J24);(·rfl);(· exact k99_);(try kernel_rfl);try exact k98_)|fail)
 with_reducible apply WF.range (fn':=Try.f117) 32
 ·exact k67_
 ·exact k18_
 ·rfl
 ·rfl
 ·rfl
 ·rfl
 ·rfl
 ·rfl
 ·rfl
 intro E1 rec tmps after hE1 hrec hcf haft
 repeat' (first|refine Ctl.h ?_ |((with_reducible intro hif);first |(focus (cases hif;done)) |((try simp only[JH]at hif);try exact hy_)) |((with_reducible first|apply J22 zh_ za_|apply J23 fol zh_ za_|apply J24);(·rfl);(· exact k100_);(try kernel_rfl);try exact k11_)|fail)
 refine WF.empty 3 1 (i64S []) (fun _ q=>i64S_stable q) ?_
 refine WF.loopAt (fun k=>k≤xs.length) (fun k=>[(0,.yl 8),(1,.ptr 6 []),(2,.ptr 5 []),(8,.sl 9 9 [] 17 0 xs.length none),(9,.nat .i64 xs.length),(10,.nat .i64 k)]) (fun k=>[.gone,.gone,.ro (.arr xs.length 5 (prS xs)),.gone,.own 79 (nilOr (doomK xs F c p l k) 10) true,.own 31 (.agg [.int .i64 c,.int .i64 p,.int .i64 l]) true,.own 25 (.sl 1 2 [] 5 0 xs.length (some p1)) true,.raw (.deferred (some [])),.raw (.loop (rec .ready none)),.own 44 (.arr xs.length 17 (ftsS F)) false,.own 3 (.arr (doomK xs F c p l k).length 1 (i64S (doomK xs F c p l k))) false]) (fun k=>xs.length - k) 0 (Nat.zero_le _) ?_ ?_ rfl ?_ ?_ rfl ?_
 ·exact k13_
 ·exact k5_
 ·exact k93_
 ·exact k93_
 ·intro k hk
  obtain⟨Dk,hD⟩:∃Dk,doomK xs F c p l k=Dk:=⟨_,rfl⟩
  rw[hD]
  have hDl:Dk.length≤256:=by have:=doom_len xs F c p l k;rw[hD]at this;omega
  by_cases hkl:k < xs.length
  ·obtain⟨x,hX⟩:∃x,xs.getD k ⟨0,0,0,0,0⟩=x:=⟨_,rfl⟩
   have hR:=right_at hx hc hkl
   rw[hX]at hR
   have hok:=hR.ok
   have ha8:=hR.a
   have hb8:=hR.b
   have hc8:=hR.c
   by_cases he:whyE c p l x (z6_ F k)=0
   ·have e:doomK xs F c p l (k+1)=Dk:=by unfold doomK;rw[hD,hX,if_neg (fun h=>h he),List.append_nil]
    repeat' (first|refine Ctl.h ?_ |((with_reducible intro hif);first |(focus (cases hif;done)) |((try simp only[JH]at hif);try exact hy_)) |((with_reducible first|apply J22 zh_ za_|apply J23 fol zh_ za_|apply J24);(·rfl);(· exact k101_);(try kernel_rfl);try exact k15_)|fail)
    have e4:Less (.own 79 (nilOr Dk 10) true) (.own 79 (nilOr (doomK xs F c p l (k+1)) 10) true):=by rw[e];exact .same _
    have e5:Less (.own 3 (.arr Dk.length 1 (i64S Dk)) false) (.own 3 (.arr (doomK xs F c p l (k+1)).length 1 (i64S (doomK xs F c p l (k+1)))) false):=by rw[e];exact .same _
    refine At.next (k+1) ?_ ?_ ?_ rfl ?_ ?_ rfl
    ·omega
    ·exact k13_
    ·exact k5_
    ·exact k93_
    ·exact k93_
   ·have e:doomK xs F c p l (k+1)=Dk++[(k:Int)]:=by unfold doomK;rw[hD,hX,if_pos he]
    have ht:whyE c p l x (z6_ F k)=0↔False:=⟨he,False.elim⟩
    cases hDe:Dk.isEmpty
    ·rw[nilOr_f hDe]
     repeat' (first|refine Ctl.h ?_ |((with_reducible intro hif);first |(focus (cases hif;done)) |((try simp only[JH]at hif);try exact hy_)) |((with_reducible first|apply J22 zh_ za_|apply J23 fol zh_ za_|apply J24);(·rfl);(· exact k101_);(try kernel_rfl);try exact k15_)|fail)
     with_reducible apply WF.split 6 2
     ·rfl
     with_reducible apply At.run zh_ za_
     ·rfl
     ·rfl
     ·rfl
     ·exact k94_
     ·exact k95_
     with_reducible apply At.yield (gr:=_)
     ·rfl
     ·rfl
     ·rfl
     ·rfl
     ·rfl
     ·rfl
     ·exact k94_
     ·exact k96_
     ·exact k94_
     ·exact k95_
     ·exact k94_
     ·exact k95_
     ·exact k96_
     ·exact hrec
     ·exact hcf
     ·rfl
     ·rfl
     ·rfl
     intro lb E2 next hE2 hnext
     repeat' (first|refine Ctl.h ?_ |((with_reducible intro hif);first |(focus (cases hif;done)) |((try simp only[JH]at hif);try exact hy_)) |((with_reducible first|apply J22 zh_ za_|apply J23 fol zh_ za_|apply J24);(·rfl);(· exact k102_);(try kernel_rfl);try exact k15_)|fail)
     with_reducible apply At.begins hrec
     ·rfl
     with_reducible refine At.code ?_
     repeat' (first|refine Ctl.h ?_ |((with_reducible intro hif);first |(focus (cases hif;done)) |((try simp only[JH]at hif);try exact hy_)) |((with_reducible first|apply J22 zh_ za_|apply J23 fol zh_ za_|apply J24);(·rfl);(· exact k103_);(try kernel_rfl);try exact k15_)|fail)
     with_reducible apply At.roundNormal
     ·exact k96_
     apply hnext
     with_reducible apply At.runEnd zh_ za_
     ·rfl
     ·rfl
     ·rfl
     ·exact k94_
     ·exact k95_
     repeat' (first|refine Ctl.h ?_ |((with_reducible intro hif);first |(focus (cases hif;done)) |((try simp only[JH]at hif);try exact hy_)) |((with_reducible first|apply J22 zh_ za_|apply J23 fol zh_ za_|apply J24);(·rfl);(· exact k102_);(try kernel_rfl);try exact k15_)|fail)
     have hA1:∀g:Nat→SV,(∀q,q < Dk.length+1→g q=SV.ite (decide (q < Dk.length)) (.int .i64 (Dk.getD q 0)) ([SV.nat .i64 k].getD (q - Dk.length) (.nat .i64 0)))→∀σ,Less (.own 3 (.arr (Dk.length+1) 1 g) false) ((HB.own 3 (.arr (Dk++[(k:Int)]).length 1 (i64S (Dk++[(k:Int)]))) false).ren σ):=fun g hg σ=>less_app Dk k fun q hq β=>by
      rw[hg q hq,ite_eq]
      by_cases h:q < Dk.length
      ·simp only[h,decide_true,cond_true,List.getD_eq_getElem?_getD,List.getElem?_append_left h];rfl
      ·obtain rfl:q=Dk.length:=by omega
       simp only[Nat.lt_irrefl,decide_false,cond_false,Nat.sub_self,List.getD_eq_getElem?_getD,List.getElem?_append_right (Nat.le_refl _),List.getElem?_cons_zero,Option.getD_some];rfl
     refine At.nextPick [0,1,2,3,4,5,6,7,8,9,13] (k+1) ?_ rfl rfl rfl ?_ rfl ?_ ?_ ?_ rfl
     ·omega
     ·exact k97_
     ·exact k93_
     ·exact k28_
     ·exact k93_
    ·rw[nilOr_t hDe]
     have hDz:Dk=[]:=by simpa using hDe
     subst hDz
     repeat' (first|refine Ctl.h ?_ |((with_reducible intro hif);first |(focus (cases hif;done)) |((try simp only[JH]at hif);try exact hy_)) |((with_reducible first|apply J22 zh_ za_|apply J23 fol zh_ za_|apply J24);(·rfl);(· exact k101_);(try kernel_rfl);try exact k15_)|fail)
     with_reducible apply WF.split 6 2
     ·rfl
     with_reducible apply At.run zh_ za_
     ·rfl
     ·rfl
     ·rfl
     ·exact k94_
     ·exact k95_
     with_reducible apply At.yield (gr:=_)
     ·rfl
     ·rfl
     ·rfl
     ·rfl
     ·rfl
     ·rfl
     ·exact k94_
     ·exact k96_
     ·exact k94_
     ·exact k95_
     ·exact k94_
     ·exact k95_
     ·exact k96_
     ·exact hrec
     ·exact hcf
     ·rfl
     ·rfl
     ·rfl
     intro lb E2 next hE2 hnext
     repeat' (first|refine Ctl.h ?_ |((with_reducible intro hif);first |(focus (cases hif;done)) |((try simp only[JH]at hif);try exact hy_)) |((with_reducible first|apply J22 zh_ za_|apply J23 fol zh_ za_|apply J24);(·rfl);(· exact k102_);(try kernel_rfl);try exact k15_)|fail)
     with_reducible apply At.begins hrec
     ·rfl
     with_reducible refine At.code ?_
     repeat' (first|refine Ctl.h ?_ |((with_reducible intro hif);first |(focus (cases hif;done)) |((try simp only[JH]at hif);try exact hy_)) |((with_reducible first|apply J22 zh_ za_|apply J23 fol zh_ za_|apply J24);(·rfl);(· exact k103_);(try kernel_rfl);try exact k15_)|fail)
     with_reducible apply At.roundNormal
     ·exact k96_
     apply hnext
     with_reducible apply At.runEnd zh_ za_
     ·rfl
     ·rfl
     ·rfl
     ·exact k94_
     ·exact k95_
     repeat' (first|refine Ctl.h ?_ |((with_reducible intro hif);first |(focus (cases hif;done)) |((try simp only[JH]at hif);try exact hy_)) |((with_reducible first|apply J22 zh_ za_|apply J23 fol zh_ za_|apply J24);(·rfl);(· exact k102_);(try kernel_rfl);try exact k15_)|fail)
     have hA1:∀g:Nat→SV,(∀q,q < 0+1→g q=[SV.nat .i64 k].getD q (.nat .i64 0))→∀σ,Less (.own 3 (.arr (0+1) 1 g) false) ((HB.own 3 (.arr ([]++[(k:Int)]).length 1 (i64S ([]++[(k:Int)]))) false).ren σ):=fun g hg σ=>less_app [] k fun q hq β=>by
      rw[hg q hq]
      obtain rfl:q=0:=by simp at hq;omega
      rfl
     refine At.nextPick [0,1,2,3,4,5,6,7,8,9,13] (k+1) ?_ rfl rfl rfl ?_ rfl ?_ ?_ ?_ rfl
     ·omega
     ·exact k97_
     ·exact k93_
     ·exact k28_
     ·exact k93_
  ·obtain rfl:k=xs.length:=by omega
   cases hDe:Dk.isEmpty
   ·rw[nilOr_f hDe]
    repeat' (first|refine Ctl.h ?_ |((with_reducible intro hif);first |(focus (cases hif;done)) |((try simp only[JH]at hif);try exact hy_)) |((with_reducible first|apply J22 zh_ za_|apply J23 fol zh_ za_|apply J24);(·rfl);(· exact k104_);(try kernel_rfl);try exact k15_)|fail)
    with_reducible apply At.itNormal .ready
    ·rfl
    ·rfl
    ·intro h;cases h
    apply haft
    intro w1 M1 D1 hA
    dsimp only
    rw[hD,nilOr_f hDe]
    repeat' (first|refine Ctl.h ?_ |((with_reducible intro hif);first |(focus (cases hif;done)) |((try simp only[JH]at hif);try exact hy_)) |((with_reducible first|apply J22 zh_ za_|apply J23 fol zh_ za_|apply J24);(·rfl);(· exact k104_);(try kernel_rfl);try exact k15_)|fail)
    apply At.endsPick [0,1,2,10] za_ (fn:=Try.f34) (rs:=[.tmp 4,.tmp 5]) hA hro (lb_ rfl) rfl
    ·exact k62_
    ·exact k18_
    ·rfl
    ·rfl
    ·rfl
    ·exact k19_
    ·rfl
    ·exact k93_
    ·exact k7_
    ·exact fun β=>rfl
    ·exact k93_
   ·rw[nilOr_t hDe]
    repeat' (first|refine Ctl.h ?_ |((with_reducible intro hif);first |(focus (cases hif;done)) |((try simp only[JH]at hif);try exact hy_)) |((with_reducible first|apply J22 zh_ za_|apply J23 fol zh_ za_|apply J24);(·rfl);(· exact k104_);(try kernel_rfl);try exact k15_)|fail)
    with_reducible apply At.itNormal .ready
    ·rfl
    ·rfl
    ·intro h;cases h
    apply haft
    intro w1 M1 D1 hA
    dsimp only
    rw[hD,nilOr_t hDe]
    repeat' (first|refine Ctl.h ?_ |((with_reducible intro hif);first |(focus (cases hif;done)) |((try simp only[JH]at hif);try exact hy_)) |((with_reducible first|apply J22 zh_ za_|apply J23 fol zh_ za_|apply J24);(·rfl);(· exact k104_);(try kernel_rfl);try exact k15_)|fail)
    apply At.endsPick [0,1,2,10] za_ (fn:=Try.f34) (rs:=[.tmp 4,.tmp 5]) hA hro (lb_ rfl) rfl
    ·exact k62_
    ·exact k18_
    ·rfl
    ·rfl
    ·rfl
    ·exact k19_
    ·rfl
    ·exact k93_
    ·exact k7_
    ·exact fun β=>rfl
    ·exact k93_
end Go.Proofs.Ytmljmabbopkpiaa.Vm
end

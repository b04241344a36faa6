import Derived.Test.YtjliakjbdcplcaaGreatQ1
import Derived.Test.YtjliakjbdcplcaaGreatQ6
import Derived.Test.YtjliakjbdcplcaaGreatQ7
import Derived.Test.YtjliakjbdcplcaaGreatQ9
import Derived.Test.YtjliakjbdcplcaaGreatQ17
set_option linter.unusedSimpArgs false
set_option linter.unusedVariables false
set_option maxRecDepth 100000
set_option maxHeartbeats 4000000
section
namespace Go.Proofs.YtjliakjbdcplcaaGreat.Vm
open Go.RowKit
attribute [local push_cast] prS zo_ zp_ xt_ y8_ y7_ y6_ y5_ y4_ xs_ y3_ y2_ y1_ zn_ z2_ z4_ z1_ zu_ zt_ iOf sRCheck ls_prS ls_prS' inR inN
theorem lsI_raw (p:List Ins):ls zm_ p.length (fun q=>yu_ (p.getD q ⟨0,0,0,0,0⟩))=p:=ls_prS p
def cRt:FuncId→Option yn_:=y9_ [(85,sRCheck)]
theorem cRt_ok:∀f S,cRt f=some S→zi_ Tryz.prog f S:=zr_ ⟨sRCheck_ok,trivial⟩
theorem right18_lit (p:List Ins)(v:Evi)(s:Sta)(p1 p2 p3:Nat)(hok:∀x∈p,x.ok)(hl:p.length≤1000000)(hc:s.cells.length≤1000000):zs_ Tryz.prog 39 [.sl 1 2 [] 5 0 p.length (some p1),evS v,sr s (.sl 3 4 [] 1 0 s.cells.length (some p2)) (.sl 5 6 [] 3 0 s.sends.length (some p3))] [.gone,.gone,.ro (.arr p.length 5 (prS p)),.gone,.ro (.arr s.cells.length 1 (zp_ s.cells)),.gone,.ro (.arr s.sends.length 3 (zo_ s.sends))] (.int .i64 (yt_ p v s)) [.gone]:=by
 simp only[evS,sr]
 by_cases h0:(checkI p).2=0
 case neg=>
  rw[show yt_ p v s=180 by rw[yt_,if_pos h0]]
  refine zf_ (fn:=Tryz.f39) 7 70 0 rfl rfl rfl rfl rfl u8_ rfl fun w0 M E hro=>?_
  repeat' (first|refine Ctl.h ?_ |((with_reducible intro hif);first |(focus (cases hif;done)) |((try simp only[JH]at hif);try exact hy_)) |((with_reducible first|apply J22 cRt_ok za_|apply J23 fol cRt_ok za_|apply J24);(·rfl);(· (simp only[push_cast,↓JP,Nat.reduceAdd,Nat.reduceEqDiff,Nat.reduceLT,Nat.reduceMul,Nat.reduceLeDiff,reduceCtorEq,reduceIte,↓JK,cRt,lsI_raw,Int.cast_ofNat_Int,h0];rfl));(try kernel_rfl);try exact k78_)|fail)
  apply At.endsRet za_ (fn:=Tryz.f39) (rs:=[.tmp 6]) Anc.refl hro (lb_ rfl) rfl
  ·exact yl_
  ·exact k6_
  ·exact k7_
  ·rfl
  ·exact k76_
  ·exact k9_
  ·exact fun β=>rfl
  ·exact k76_
 by_cases h1:v.process < 0
 case pos=>
  rw[show yt_ p v s=181 by rw[yt_,if_neg (by simp[h0]),if_pos u9_]]
  refine zf_ (fn:=Tryz.f39) 7 70 0 rfl rfl rfl rfl rfl u8_ rfl fun w0 M E hro=>?_
  repeat' (first|refine Ctl.h ?_ |((with_reducible intro hif);first |(focus (cases hif;done)) |((try simp only[JH]at hif);try exact hy_)) |((with_reducible first|apply J22 cRt_ok za_|apply J23 fol cRt_ok za_|apply J24);(·rfl);(· (simp only[push_cast,↓JP,Nat.reduceAdd,Nat.reduceEqDiff,Nat.reduceLT,Nat.reduceMul,Nat.reduceLeDiff,reduceCtorEq,reduceIte,↓JK,cRt,lsI_raw,Int.cast_ofNat_Int,(eq_true h0),h1];rfl));(try kernel_rfl);try exact k78_)|fail)
  apply At.endsRet za_ (fn:=Tryz.f39) (rs:=[.tmp 6]) Anc.refl hro (lb_ rfl) rfl
  ·exact yl_
  ·exact k6_
  ·exact k7_
  ·rfl
  ·exact k76_
  ·exact k9_
  ·exact fun β=>rfl
  ·exact k76_
 by_cases h2:65536 < v.process
 case pos=>
  rw[show yt_ p v s=181 by rw[yt_,if_neg (by simp[h0]),if_pos u9_]]
  refine zf_ (fn:=Tryz.f39) 7 70 0 rfl rfl rfl rfl rfl u8_ rfl fun w0 M E hro=>?_
  repeat' (first|refine Ctl.h ?_ |((with_reducible intro hif);first |(focus (cases hif;done)) |((try simp only[JH]at hif);try exact hy_)) |((with_reducible first|apply J22 cRt_ok za_|apply J23 fol cRt_ok za_|apply J24);(·rfl);(· (simp only[push_cast,↓JP,Nat.reduceAdd,Nat.reduceEqDiff,Nat.reduceLT,Nat.reduceMul,Nat.reduceLeDiff,reduceCtorEq,reduceIte,↓JK,cRt,lsI_raw,Int.cast_ofNat_Int,(eq_true h0),h1,h2];rfl));(try kernel_rfl);try exact k78_)|fail)
  apply At.endsRet za_ (fn:=Tryz.f39) (rs:=[.tmp 6]) Anc.refl hro (lb_ rfl) rfl
  ·exact yl_
  ·exact k6_
  ·exact k7_
  ·rfl
  ·exact k76_
  ·exact k9_
  ·exact fun β=>rfl
  ·exact k76_
 by_cases h3:v.ports < 0
 case pos=>
  rw[show yt_ p v s=181 by rw[yt_,if_neg (by simp[h0]),if_pos u9_]]
  refine zf_ (fn:=Tryz.f39) 7 70 0 rfl rfl rfl rfl rfl u8_ rfl fun w0 M E hro=>?_
  repeat' (first|refine Ctl.h ?_ |((with_reducible intro hif);first |(focus (cases hif;done)) |((try simp only[JH]at hif);try exact hy_)) |((with_reducible first|apply J22 cRt_ok za_|apply J23 fol cRt_ok za_|apply J24);(·rfl);(· (simp only[push_cast,↓JP,Nat.reduceAdd,Nat.reduceEqDiff,Nat.reduceLT,Nat.reduceMul,Nat.reduceLeDiff,reduceCtorEq,reduceIte,↓JK,cRt,lsI_raw,Int.cast_ofNat_Int,(eq_true h0),h1,h2,h3];rfl));(try kernel_rfl);try exact k78_)|fail)
  apply At.endsRet za_ (fn:=Tryz.f39) (rs:=[.tmp 6]) Anc.refl hro (lb_ rfl) rfl
  ·exact yl_
  ·exact k6_
  ·exact k7_
  ·rfl
  ·exact k76_
  ·exact k9_
  ·exact fun β=>rfl
  ·exact k76_
 by_cases h4:v.look≤0
 case pos=>
  rw[show yt_ p v s=181 by rw[yt_,if_neg (by simp[h0]),if_pos u9_]]
  refine zf_ (fn:=Tryz.f39) 7 70 0 rfl rfl rfl rfl rfl u8_ rfl fun w0 M E hro=>?_
  repeat' (first|refine Ctl.h ?_ |((with_reducible intro hif);first |(focus (cases hif;done)) |((try simp only[JH]at hif);try exact hy_)) |((with_reducible first|apply J22 cRt_ok za_|apply J23 fol cRt_ok za_|apply J24);(·rfl);(· (simp only[push_cast,↓JP,Nat.reduceAdd,Nat.reduceEqDiff,Nat.reduceLT,Nat.reduceMul,Nat.reduceLeDiff,reduceCtorEq,reduceIte,↓JK,cRt,lsI_raw,Int.cast_ofNat_Int,(eq_true h0),h1,h2,h3,h4];rfl));(try kernel_rfl);try exact k78_)|fail)
  apply At.endsRet za_ (fn:=Tryz.f39) (rs:=[.tmp 6]) Anc.refl hro (lb_ rfl) rfl
  ·exact yl_
  ·exact k6_
  ·exact k7_
  ·rfl
  ·exact k76_
  ·exact k9_
  ·exact fun β=>rfl
  ·exact k76_
 by_cases h5:v.now < 0
 case pos=>
  rw[show yt_ p v s=181 by rw[yt_,if_neg (by simp[h0]),if_pos u9_]]
  refine zf_ (fn:=Tryz.f39) 7 70 0 rfl rfl rfl rfl rfl u8_ rfl fun w0 M E hro=>?_
  repeat' (first|refine Ctl.h ?_ |((with_reducible intro hif);first |(focus (cases hif;done)) |((try simp only[JH]at hif);try exact hy_)) |((with_reducible first|apply J22 cRt_ok za_|apply J23 fol cRt_ok za_|apply J24);(·rfl);(· (simp only[push_cast,↓JP,Nat.reduceAdd,Nat.reduceEqDiff,Nat.reduceLT,Nat.reduceMul,Nat.reduceLeDiff,reduceCtorEq,reduceIte,↓JK,cRt,lsI_raw,Int.cast_ofNat_Int,(eq_true h0),h1,h2,h3,h4,h5];rfl));(try kernel_rfl);try exact k78_)|fail)
  apply At.endsRet za_ (fn:=Tryz.f39) (rs:=[.tmp 6]) Anc.refl hro (lb_ rfl) rfl
  ·exact yl_
  ·exact k6_
  ·exact k7_
  ·rfl
  ·exact k76_
  ·exact k9_
  ·exact fun β=>rfl
  ·exact k76_
 by_cases h6:281474976710656 < v.now
 case pos=>
  rw[show yt_ p v s=181 by rw[yt_,if_neg (by simp[h0]),if_pos u9_]]
  refine zf_ (fn:=Tryz.f39) 7 70 0 rfl rfl rfl rfl rfl u8_ rfl fun w0 M E hro=>?_
  repeat' (first|refine Ctl.h ?_ |((with_reducible intro hif);first |(focus (cases hif;done)) |((try simp only[JH]at hif);try exact hy_)) |((with_reducible first|apply J22 cRt_ok za_|apply J23 fol cRt_ok za_|apply J24);(·rfl);(· (simp only[push_cast,↓JP,Nat.reduceAdd,Nat.reduceEqDiff,Nat.reduceLT,Nat.reduceMul,Nat.reduceLeDiff,reduceCtorEq,reduceIte,↓JK,cRt,lsI_raw,Int.cast_ofNat_Int,(eq_true h0),h1,h2,h3,h4,h5,h6];rfl));(try kernel_rfl);try exact k78_)|fail)
  apply At.endsRet za_ (fn:=Tryz.f39) (rs:=[.tmp 6]) Anc.refl hro (lb_ rfl) rfl
  ·exact yl_
  ·exact k6_
  ·exact k7_
  ·rfl
  ·exact k76_
  ·exact k9_
  ·exact fun β=>rfl
  ·exact k76_
 by_cases h7:s.at_ < 0
 case pos=>
  rw[show yt_ p v s=182 by rw[yt_,if_neg (by simp[h0]),if_neg u10_,if_pos u11_]]
  refine zf_ (fn:=Tryz.f39) 7 70 0 rfl rfl rfl rfl rfl u8_ rfl fun w0 M E hro=>?_
  repeat' (first|refine Ctl.h ?_ |((with_reducible intro hif);first |(focus (cases hif;done)) |((try simp only[JH]at hif);try exact hy_)) |((with_reducible first|apply J22 cRt_ok za_|apply J23 fol cRt_ok za_|apply J24);(·rfl);(· (simp only[push_cast,↓JP,Nat.reduceAdd,Nat.reduceEqDiff,Nat.reduceLT,Nat.reduceMul,Nat.reduceLeDiff,reduceCtorEq,reduceIte,↓JK,cRt,lsI_raw,Int.cast_ofNat_Int,(eq_true h0),h1,h2,h3,h4,h5,h6,h7];rfl));(try kernel_rfl);try exact k78_)|fail)
  apply At.endsRet za_ (fn:=Tryz.f39) (rs:=[.tmp 6]) Anc.refl hro (lb_ rfl) rfl
  ·exact yl_
  ·exact k6_
  ·exact k7_
  ·rfl
  ·exact k76_
  ·exact k9_
  ·exact fun β=>rfl
  ·exact k76_
 by_cases h8:(p.length:Int)≤s.at_
 case pos=>
  rw[show yt_ p v s=182 by rw[yt_,if_neg (by simp[h0]),if_neg u10_,if_pos u11_]]
  refine zf_ (fn:=Tryz.f39) 7 70 0 rfl rfl rfl rfl rfl u8_ rfl fun w0 M E hro=>?_
  repeat' (first|refine Ctl.h ?_ |((with_reducible intro hif);first |(focus (cases hif;done)) |((try simp only[JH]at hif);try exact hy_)) |((with_reducible first|apply J22 cRt_ok za_|apply J23 fol cRt_ok za_|apply J24);(·rfl);(· (simp only[push_cast,↓JP,Nat.reduceAdd,Nat.reduceEqDiff,Nat.reduceLT,Nat.reduceMul,Nat.reduceLeDiff,reduceCtorEq,reduceIte,↓JK,cRt,lsI_raw,Int.cast_ofNat_Int,(eq_true h0),h1,h2,h3,h4,h5,h6,h7,h8];rfl));(try kernel_rfl);try exact k78_)|fail)
  apply At.endsRet za_ (fn:=Tryz.f39) (rs:=[.tmp 6]) Anc.refl hro (lb_ rfl) rfl
  ·exact yl_
  ·exact k6_
  ·exact k7_
  ·rfl
  ·exact k76_
  ·exact k9_
  ·exact fun β=>rfl
  ·exact k76_
 by_cases h9:1024 < s.cells.length
 case pos=>
  rw[show yt_ p v s=182 by rw[yt_,if_neg (by simp[h0]),if_neg u10_,if_pos u11_]]
  refine zf_ (fn:=Tryz.f39) 7 70 0 rfl rfl rfl rfl rfl u8_ rfl fun w0 M E hro=>?_
  repeat' (first|refine Ctl.h ?_ |((with_reducible intro hif);first |(focus (cases hif;done)) |((try simp only[JH]at hif);try exact hy_)) |((with_reducible first|apply J22 cRt_ok za_|apply J23 fol cRt_ok za_|apply J24);(·rfl);(· (simp only[push_cast,↓JP,Nat.reduceAdd,Nat.reduceEqDiff,Nat.reduceLT,Nat.reduceMul,Nat.reduceLeDiff,reduceCtorEq,reduceIte,↓JK,cRt,lsI_raw,Int.cast_ofNat_Int,(eq_true h0),h1,h2,h3,h4,h5,h6,h7,h8,h9];rfl));(try kernel_rfl);try exact k78_)|fail)
  apply At.endsRet za_ (fn:=Tryz.f39) (rs:=[.tmp 6]) Anc.refl hro (lb_ rfl) rfl
  ·exact yl_
  ·exact k6_
  ·exact k7_
  ·rfl
  ·exact k76_
  ·exact k9_
  ·exact fun β=>rfl
  ·exact k76_
 by_cases h10:s.draws < 0
 case pos=>
  rw[show yt_ p v s=182 by rw[yt_,if_neg (by simp[h0]),if_neg u10_,if_pos u11_]]
  refine zf_ (fn:=Tryz.f39) 7 70 0 rfl rfl rfl rfl rfl u8_ rfl fun w0 M E hro=>?_
  repeat' (first|refine Ctl.h ?_ |((with_reducible intro hif);first |(focus (cases hif;done)) |((try simp only[JH]at hif);try exact hy_)) |((with_reducible first|apply J22 cRt_ok za_|apply J23 fol cRt_ok za_|apply J24);(·rfl);(· (simp only[push_cast,↓JP,Nat.reduceAdd,Nat.reduceEqDiff,Nat.reduceLT,Nat.reduceMul,Nat.reduceLeDiff,reduceCtorEq,reduceIte,↓JK,cRt,lsI_raw,Int.cast_ofNat_Int,(eq_true h0),h1,h2,h3,h4,h5,h6,h7,h8,h9,h10];rfl));(try kernel_rfl);try exact k78_)|fail)
  apply At.endsRet za_ (fn:=Tryz.f39) (rs:=[.tmp 6]) Anc.refl hro (lb_ rfl) rfl
  ·exact yl_
  ·exact k6_
  ·exact k7_
  ·rfl
  ·exact k76_
  ·exact k9_
  ·exact fun β=>rfl
  ·exact k76_
 by_cases h11:1099511627776 < s.draws
 case pos=>
  rw[show yt_ p v s=182 by rw[yt_,if_neg (by simp[h0]),if_neg u10_,if_pos u11_]]
  refine zf_ (fn:=Tryz.f39) 7 70 0 rfl rfl rfl rfl rfl u8_ rfl fun w0 M E hro=>?_
  repeat' (first|refine Ctl.h ?_ |((with_reducible intro hif);first |(focus (cases hif;done)) |((try simp only[JH]at hif);try exact hy_)) |((with_reducible first|apply J22 cRt_ok za_|apply J23 fol cRt_ok za_|apply J24);(·rfl);(· exact k79_);(try kernel_rfl);try exact k78_)|fail)
  apply At.endsRet za_ (fn:=Tryz.f39) (rs:=[.tmp 6]) Anc.refl hro (lb_ rfl) rfl
  ·exact yl_
  ·exact k6_
  ·exact k7_
  ·rfl
  ·exact k76_
  ·exact k9_
  ·exact fun β=>rfl
  ·exact k76_
 rw[show yt_ p v s=0 by rw[yt_,if_neg (by simp[h0]),if_neg u10_,if_neg (by rw[Sta.rightB,decide_eq_true (by omega)];decide)]]
 refine zf_ (fn:=Tryz.f39) 7 70 0 rfl rfl rfl rfl rfl u8_ rfl fun w0 M E hro=>?_
 repeat' (first|refine Ctl.h ?_ |((with_reducible intro hif);first |(focus (cases hif;done)) |((try simp only[JH]at hif);try exact hy_)) |((with_reducible first|apply J22 cRt_ok za_|apply J23 fol cRt_ok za_|apply J24);(·rfl);(· exact k79_);(try kernel_rfl);try exact k78_)|fail)
 apply At.endsRet za_ (fn:=Tryz.f39) (rs:=[.tmp 6]) Anc.refl hro (lb_ rfl) rfl
 ·exact yl_
 ·exact k6_
 ·exact k7_
 ·rfl
 ·exact k76_
 ·exact k9_
 ·exact fun β=>rfl
 ·exact k76_
end Go.Proofs.YtjliakjbdcplcaaGreat.Vm
end
section
namespace Go.Proofs.YtjliakjbdcplcaaGreat.Vm
open Go.RowKit
structure PG (P:List Ins):Prop where
 ok:∀x∈P,x.ok
 chk:(checkI P).2=0
structure SG (P:List Ins) (s:Sta):Prop where
 a0:0≤s.at_
 a1:s.at_ < P.length
 d0:0≤s.draws
 d1:s.draws≤1099511627776
 c1:s.cells.length≤1024
 n1:s.sends.length≤1000000
theorem PG.len {P:List Ins}(h:PG P):P.length≤256:=(right_last' h.chk).2.1
theorem SG.sok {P:List Ins}{s:Sta}(h:SG P s)(hP:PG P):SOk s:=⟨h.a0,by have:=h.a1;have:=hP.len;omega,h.d0,h.d1,h.c1,h.n1⟩
theorem SG.ri {P:List Ins}{s:Sta}(h:SG P s)(hP:PG P):RI (insAt P s.at_):=ri_at hP.ok hP.chk (by have:=h.a0;have:=h.a1;omega)
theorem SG.of {P:List Ins}{s:Sta}(h:s.rightB P.length=true)(hn:s.sends.length≤1000000):SG P s:=by
 have:=of_decide_eq_true (show decide _=true from h)
 exact⟨by omega,by omega,by omega,by omega,by omega,hn⟩
theorem doS_good {P:List Ins}{s:Sta}{v:Evi}(h:SG P s)(hP:PG P):SG P (doS s v (insAt P s.at_)):=by
 by_cases he:doE s v (insAt P s.at_)≠0
 ·rw[doS_bad he];exact h
 ·have hR:=right_at hP.ok hP.chk (k:=s.at_.toNat) (by have:=h.a0;have:=h.a1;omega)
  have hx:P.getD s.at_.toNat ⟨0,0,0,0,0⟩=insAt P s.at_:=rfl
  rw[hx]at hR
  generalize insAt P s.at_=x at *
  obtain⟨a0,a1,d0,d1,c1,n1⟩:=h
  have hg:=goesB_of hR.one
  have ht:=targB_of hR.one
  have hgo:x.op≠1→x.op≠2→x.op≠9→s.at_+1 < P.length:=fun h1 h2 h9=>by
   have:=hR.goes (by rw[hg];simp[h1,h2,h9])
   omega
  have hta:(x.op=9∨x.op=10∨x.op=11)→0≤x.n∧x.n < P.length:=fun hj=>by
   have hb:targB x=true:=by rw[ht];rcases hj with e|e|e<;>simp[e]
   have:=hR.targ hb
   unfold targV at this
   rwa [if_pos hb]at this
  have h2:x.op≠2:=fun e=>he (by simp[doE,e])
  have hE:doE s v x=0:=by omega
  have hP:∀k y,s.at_+1 < P.length→SG P (s.put k y):=fun k y h=>⟨by show 0≤s.at_+1;omega,h,d0,d1,c1,n1⟩
  rcases hR.cls with q|q|q|q|q|q|q|q|q|q|q|q
  ·rw[show doS s v x={ s with ended:=true } by simp[doS,hE,q]];exact⟨a0,a1,d0,d1,c1,n1⟩
  ·exact absurd q h2
  ·rw[show doS s v x=s.put x.a.toNat x.n by simp[doS,hE,q]];exact hP _ _ (hgo (by omega) h2 (by omega))
  ·rw[show doS s v x=s.put x.a.toNat (s.regs x.b.toNat) by simp[doS,hE,q]];exact hP _ _ (hgo (by omega) h2 (by omega))
  ·rw[show doS s v x=s.put x.a.toNat (s.cells.getD (s.regs x.b.toNat).toNat 0) by simp[doS,hE,q]];exact hP _ _ (hgo (by omega) h2 (by omega))
  ·rw[show doS s v x={ s with cells:=s.cells.set (s.regs x.b.toNat).toNat (s.regs x.a.toNat),at_:=s.at_+1 } by simp[doS,hE,q]]
   exact⟨by show 0≤s.at_+1;omega,hgo (by omega) h2 (by omega),d0,d1,by simpa using c1,n1⟩
  ·rw[show doS s v x={ s.put x.a.toNat (drawI v.seed v.process s.draws (s.regs x.b.toNat))with draws:=s.draws+1 } by simp[doS,hE,q]]
   have hd:s.draws≠1099511627776:=fun e=>by
    have h3:doE s v x=if s.regs x.b.toNat < 1 then 186 else if s.draws=1099511627776 then 187 else 0:=by simp[doE,q]
    rw[hE,if_pos e]at h3
    split at h3<;>omega
   exact⟨by show 0≤s.at_+1;omega,hgo (by omega) h2 (by omega),by show 0≤s.draws+1;omega,by show s.draws+1≤_;omega,c1,n1⟩
  ·rw[show doS s v x={ s with at_:=s.at_+1,sends:=s.sends++[⟨x.n,s.regs x.a.toNat,s.regs x.b.toNat⟩] } by simp[doS,hE,q]]
   have hs:s.sends.length < 256:=by
    rcases Nat.lt_or_ge s.sends.length 256 with h'|h'
    ·exact h'
    ·exfalso
     have h3:doE s v x=sendE s v x:=by simp[doE,q]
     unfold sendE at h3
     rw[hE,if_pos h']at h3
     split at h3
     ·omega
     ·split at h3
      ·omega
      ·split at h3<;>omega
   exact⟨by show 0≤s.at_+1;omega,hgo (by omega) h2 (by omega),d0,d1,c1,by simp;omega⟩
  ·rw[show doS s v x={ s with at_:=x.n } by simp[doS,hE,q]]
   have:=hta (.inl q);exact⟨this.1,this.2,d0,d1,c1,n1⟩
  ·rw[show doS s v x={ s with at_:=if s.regs x.a.toNat=0 then x.n else s.at_+1 } by simp[doS,hE,q]]
   have h3:=hta (.inr (.inl q))
   have h4:=hgo (by omega) h2 (by omega)
   refine⟨?_,?_,d0,d1,c1,n1⟩<;>dsimp only<;>split<;>omega
  ·rw[show doS s v x={ s with at_:=if s.regs x.a.toNat < 0 then x.n else s.at_+1 } by simp[doS,hE,q]]
   have h3:=hta (.inr (.inr q))
   have h4:=hgo (by omega) h2 (by omega)
   refine⟨?_,?_,d0,d1,c1,n1⟩<;>dsimp only<;>split<;>omega
  ·rw [show doS s v x=s.put x.a.toNat (yx_ (x.op - 32) (s.regs x.b.toNat) (s.regs x.c.toNat)) by
    unfold doS
    rw[hE]
    simp[show ¬x.op=1 by omega,show ¬x.op=3 by omega,show ¬x.op=4 by omega,show ¬x.op=5 by omega,show ¬x.op=6 by omega,show ¬x.op=7 by omega,show ¬x.op=8 by omega,show ¬x.op=9 by omega,show ¬x.op=10 by omega,show ¬x.op=11 by omega]]
   exact hP _ _ (hgo (by omega) h2 (by omega))
theorem stepS_good {P:List Ins}{s:Sta}{v:Evi}(h:SG P s)(hP:PG P):SG P (xx_ P v s):=by
 unfold xx_
 split
 ·exact h
 ·exact doS_good h hP
def stepX (P:List Ins)(s:Sta)(x:Ins):Ins:=if s.ended=true then x else insAt P s.at_
structure RR where
 tr:List Int
 at_:Int
 bad:Int
 s:Sta
 x:Ins
def xq_ (P:List Ins)(v:Evi):Nat→Sta→Ins→List Int→Int→RR
 | 0,s,x,tr,a=>if s.ended=true then ⟨tr,a,0,s,x⟩ else ⟨tr,s.at_,190,s,x⟩
 | n+1,s,x,tr,a=>if s.ended=true then ⟨tr,a,0,s,x⟩ else
  if x3_ P v s=0 then xq_ P v n (xx_ P v s) (stepX P s x) (tr++[s.at_]) s.at_ else ⟨tr++[s.at_],s.at_,x3_ P v s,xx_ P v s,stepX P s x⟩
theorem x9_ {P:List Ins}{v:Evi}{n:Nat}{s:Sta}{x:Ins}{tr:List Int}{a:Int}(h:s.ended=true):xq_ P v n s x tr a=⟨tr,a,0,s,x⟩:=by
 cases n<;>simp[xq_,h]
theorem x7_ {P:List Ins}{v:Evi}{s:Sta}{x:Ins}{tr:List Int}{a:Int}(h:s.ended=false):xq_ P v 0 s x tr a=⟨tr,s.at_,190,s,x⟩:=by simp[xq_,h]
theorem runA_go {P:List Ins}{v:Evi}{n:Nat}{s:Sta}{x:Ins}{tr:List Int}{a:Int}(h:s.ended=false)(hn:0 < n)(he:x3_ P v s=0):xq_ P v n s x tr a=xq_ P v (n - 1) (xx_ P v s) (stepX P s x) (tr++[s.at_]) s.at_:=by
 obtain⟨n,rfl⟩:∃k,n=k+1:=⟨n - 1,by omega⟩
 simp[xq_,h,he]
theorem runA_bad {P:List Ins}{v:Evi}{n:Nat}{s:Sta}{x:Ins}{tr:List Int}{a:Int}(h:s.ended=false)(hn:0 < n)(he:x3_ P v s≠0):xq_ P v n s x tr a=⟨tr++[s.at_],s.at_,x3_ P v s,xx_ P v s,stepX P s x⟩:=by
 obtain⟨n,rfl⟩:∃k,n=k+1:=⟨n - 1,by omega⟩
 simp[xq_,h,he]
theorem wrongE_vals (op b:Int):yp_ op b=0∨yp_ op b=130∨yp_ op b=131:=by
 unfold yp_
 split
 ·omega
 ·split<;>omega
theorem doE_ne190 (s:Sta)(v:Evi)(x:Ins):doE s v x≠190:=by
 unfold doE sendE
 have:=wrongE_vals (x.op - 32) (s.regs x.c.toNat)
 repeat' split
 all_goals omega
theorem stepE_ne190 (P:List Ins)(v:Evi)(s:Sta):x3_ P v s≠190:=by
 unfold x3_
 split
 ·omega
 ·exact doE_ne190 _ _ _
def rrE (f:Int):Int:=if f < 0∨4096 < f then 2 else 0
def begR (value time source:Int):Nat→Int:=fun q=>if q=2 then source else if q=1 then time else if q=0 then value else 0
def yo_ (value time source:Int)(cells:List Int)(draws:Int):Sta:=⟨0,false,begR value time source,cells,draws,[]⟩
def ropE (P:List Ins)(v:Evi)(s:Sta)(f:Int):Int:=if rrE f=0 then yt_ P v s else rrE f
def xp_ (P:List Ins)(v:Evi)(s:Sta)(f:Int):RR:=if ropE P v s f=0 then xq_ P v f.toNat s Ins0 [] 0 else ⟨[],0,ropE P v s f,zeroSt,Ins0⟩
theorem ropE_zero {P:List Ins}{v:Evi}{s:Sta}{f:Int}(h:ropE P v s f=0):(0≤f∧f≤4096)∧yt_ P v s=0:=by
 unfold ropE at h
 by_cases q:rrE f=0
 ·rw[if_pos q]at h
  refine⟨?_,h⟩
  unfold rrE at q
  split at q<;>omega
 ·rw[if_neg q]at h;exact absurd h q
theorem openE_zero {P:List Ins}{v:Evi}{s:Sta}(h:yt_ P v s=0):(checkI P).2=0∧v.rightB=true∧s.rightB P.length=true:=by
 unfold yt_ at h
 have q1:(checkI P).2=0:=by
  by_cases q:(checkI P).2=0
  ·exact q
  ·rw[if_pos q]at h;cases h
 rw[if_neg (fun h=>h q1)]at h
 have q2:v.rightB=true:=by
  cases q:v.rightB
  ·rw[if_pos q]at h;cases h
  ·rfl
 rw[if_neg (by rw[q2];exact Bool.noConfusion)]at h
 refine⟨q1,q2,?_⟩
 cases q:s.rightB P.length
 ·rw[if_pos q]at h;cases h
 ·rfl
end Go.Proofs.YtjliakjbdcplcaaGreat.Vm
end
section
namespace Go.Proofs.YtjliakjbdcplcaaGreat.Vm
open Go.RowKit
attribute [local push_cast] prS zo_ zp_ xt_ y8_ y7_ y6_ y5_ y4_ xs_ y3_ y2_ y1_ zn_ z2_ z4_ z1_ zu_ zt_ iOf
theorem ls_i64S2 (l:List Int):ls iOf l.length (fun q=>.int .i64 (l.getD q 0))=l:=xu_ l
theorem ls_sndsS2 (l:List Snd):ls zw_ l.length (fun q=>sndS (l.getD q ⟨0,0,0⟩))=l:=ls_sndsS l
def cM0:FuncId→Option yn_:=y9_ []
theorem cM0_ok:∀f S,cM0 f=some S→zi_ Tryz.prog f S:=fun f S h=>by cases h
def aF:RF:=fun s v x=>some (0≤x.a∧x.a < 8,.int .i64 (s.regs x.a.toNat))
def bF:RF:=fun s v x=>some (0≤x.b∧x.b < 8,.int .i64 (s.regs x.b.toNat))
def cF:RF:=fun s v x=>some (0≤x.c∧x.c < 8,.int .i64 (s.regs x.c.toNat))
theorem a_ok:zi_ Tryz.prog 177 (rS aF):=rS_ok (by kernel_rfl) fun s v x cond val hF hc=>by
 cases hF
 obtain⟨h0,h8⟩:=hc
 have hn:x.a.toNat < 8:=by omega
 refine⟨fun _=>rfl,fun _=>trivial,?_⟩
 refine zf_ (fn:=Tryz.f177) 4 14 0 rfl rfl rfl rfl rfl u12_ rfl fun w0 M E hro=>?_
 repeat' (first|refine Ctl.h ?_ |((with_reducible intro hif);first |(focus (cases hif;done)) |((try simp only[JH]at hif);try exact hy_)) |((with_reducible first|apply J22 cM0_ok za_|apply J23 fol cM0_ok za_|apply J24);(·rfl);(· exact k81_);(try kernel_rfl);try exact k80_)|fail)
 apply At.endsRet za_ (fn:=Tryz.f177) (rs:=[.tmp 2]) Anc.refl hro (lb_ rfl) rfl
 ·exact yl_
 ·exact k6_
 ·exact k7_
 ·rfl
 ·exact xg_
 ·exact k9_
 ·exact fun β=>rfl
 ·exact xg_
theorem b_ok:zi_ Tryz.prog 175 (rS bF):=rS_ok (by kernel_rfl) fun s v x cond val hF hc=>by
 cases hF
 obtain⟨h0,h8⟩:=hc
 have hn:x.b.toNat < 8:=by omega
 refine⟨fun _=>rfl,fun _=>trivial,?_⟩
 refine zf_ (fn:=Tryz.f175) 4 14 0 rfl rfl rfl rfl rfl u12_ rfl fun w0 M E hro=>?_
 repeat' (first|refine Ctl.h ?_ |((with_reducible intro hif);first |(focus (cases hif;done)) |((try simp only[JH]at hif);try exact hy_)) |((with_reducible first|apply J22 cM0_ok za_|apply J23 fol cM0_ok za_|apply J24);(·rfl);(· exact k81_);(try kernel_rfl);try exact k80_)|fail)
 apply At.endsRet za_ (fn:=Tryz.f175) (rs:=[.tmp 2]) Anc.refl hro (lb_ rfl) rfl
 ·exact yl_
 ·exact k6_
 ·exact k7_
 ·rfl
 ·exact xg_
 ·exact k9_
 ·exact fun β=>rfl
 ·exact xg_
theorem c_ok:zi_ Tryz.prog 181 (rS cF):=rS_ok (by kernel_rfl) fun s v x cond val hF hc=>by
 cases hF
 obtain⟨h0,h8⟩:=hc
 have hn:x.c.toNat < 8:=by omega
 refine⟨fun _=>rfl,fun _=>trivial,?_⟩
 refine zf_ (fn:=Tryz.f181) 4 14 0 rfl rfl rfl rfl rfl u12_ rfl fun w0 M E hro=>?_
 repeat' (first|refine Ctl.h ?_ |((with_reducible intro hif);first |(focus (cases hif;done)) |((try simp only[JH]at hif);try exact hy_)) |((with_reducible first|apply J22 cM0_ok za_|apply J23 fol cM0_ok za_|apply J24);(·rfl);(· exact k81_);(try kernel_rfl);try exact k80_)|fail)
 apply At.endsRet za_ (fn:=Tryz.f181) (rs:=[.tmp 2]) Anc.refl hro (lb_ rfl) rfl
 ·exact yl_
 ·exact k6_
 ·exact k7_
 ·rfl
 ·exact xg_
 ·exact k9_
 ·exact fun β=>rfl
 ·exact xg_
def putF:MF:=fun ar s v x=>match ar with
 | [.int .i64 n]=>some (0≤x.a∧x.a < 8∧0≤s.at_∧s.at_≤256,fun _=>.int .i64 0,s.put x.a.toNat n,x,false)
 | _=>none
theorem put_ok:zi_ Tryz.prog 174 (mS putF):=mS_ok (by kernel_rfl) fun ar s v x cond val s' x' mv hF hc=>by
 unfold putF at hF
 split at hF
 ·cases hF
  obtain⟨h0,h8,a0,a1⟩:=hc
  have hn:x.a.toNat < 8:=by omega
  refine⟨fun _=>rfl,fun _=>⟨trivial,trivial⟩,fun _ _=>rfl,fun _ _ _=>trivial,?_⟩
  refine zf_ (fn:=Tryz.f174) 4 25 0 rfl rfl rfl rfl rfl u12_ rfl fun w0 M E hro=>?_
  repeat' (first|refine Ctl.h ?_ |((with_reducible intro hif);first |(focus (cases hif;done)) |((try simp only[JH]at hif);try exact hy_)) |((with_reducible first|apply J22 cM0_ok za_|apply J23 fol cM0_ok za_|apply J24);(·rfl);(· exact k82_);(try kernel_rfl);try exact k15_)|fail)
  apply At.endsRet za_ (fn:=Tryz.f174) (rs:=[.tmp 4]) Anc.refl hro (lb_ rfl) rfl
  ·exact yl_
  ·exact k6_
  ·exact k7_
  ·rfl
  ·exact xg_
  ·exact k9_
  ·exact fun β=>rfl
  ·exact xg_
 ·cases hF
def jumpIfF:MF:=fun ar s v x=>match ar with
 | [.bool is]=>some (0≤s.at_∧s.at_≤256∧0≤x.n∧x.n < 256,fun _=>.int .i64 0,{ s with at_:=if is=true then x.n else s.at_+1 },x,false)
 | _=>none
theorem jumpIf_ok:zi_ Tryz.prog 179 (mS jumpIfF):=mS_ok (by kernel_rfl) fun ar s v x cond val s' x' mv hF hc=>by
 unfold jumpIfF at hF
 split at hF
 ·rename_i is
  cases hF
  obtain⟨a0,a1,n0,n1⟩:=hc
  refine⟨fun _=>rfl,fun _=>⟨trivial,trivial⟩,fun _ _=>rfl,fun _ _ _=>trivial,?_⟩
  cases is
  ·exact d39_
  ·exact d39_
 ·cases hF
end Go.Proofs.YtjliakjbdcplcaaGreat.Vm
end
section
namespace Go.Proofs.YtjliakjbdcplcaaGreat.Vm
open Go.RowKit
def sApply:yn_:=fun args h m=>match args with
 | [v1,v2,v3]=>bif isI .u8 v1 && isI .i64 v2 && isI .i64 v3 then some (True,.tup [.int .i64 (yx_ (iOf v1) (iOf v2) (iOf v3)),.int .i64 (yp_ (iOf v1) (iOf v3))],[],[])else none
 | _=>none
theorem sApply_ok:zi_ Tryz.prog 180 sApply:=by
 refine⟨zg_ (by kernel_rfl),fun args h m c v rd wr hs hm hc w0 M β h' w R hrd hwr hst=>?_⟩
 unfold sApply at hs
 split at hs
 ·rename_i v1 v2 v3
  obtain⟨hb,hs⟩:=zl_ hs
  simp only[Option.some.injEq,Prod.mk.injEq]at hs
  obtain⟨rfl,rfl,rfl,rfl⟩:=hs
  simp only[Bool.and_eq_true]at hb
  obtain⟨⟨b1,b2⟩,b3⟩:=hb
  simp only[denL,yb_,ya_,z9_,zx_,zd_ b1,zd_ b2,zd_ b3]
  exact(apply_c (iOf v1) (iOf v2) (iOf v3) w).mono fun e w' he=>post_read R (by(repeat' (first|exact trivial|exact rfl|assumption|apply zc_.ite|apply And.intro|intro _ |(simp only[zc_,ze_,zp_,prS,yu_,zo_,sndS];done)))) rfl he.1 he.2
 ·cases hs
end Go.Proofs.YtjliakjbdcplcaaGreat.Vm
end

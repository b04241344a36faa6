import Derived.Test.YtjliakjbdcplcaaGreatQ1
import Derived.Test.YtjliakjbdcplcaaGreatQ9
import Derived.Test.YtjliakjbdcplcaaGreatQ16
set_option linter.unusedSimpArgs false
set_option linter.unusedVariables false
set_option maxRecDepth 100000
set_option maxHeartbeats 4000000
section
namespace Go.Proofs.YtjliakjbdcplcaaGreat.Vm
open Go.RowKit
attribute [local push_cast] prS zo_ zp_ xt_ y8_ y7_ y6_ y5_ y4_ xs_ y3_ y2_ y1_ zn_ z2_ z4_ z1_ zu_ zt_ iOf cOne sRVal sRBel sRAp sr csl ssl evS yu_ oneL nat_one_i inR inN
theorem one7e1 (s:Sta)(v:Evi)(x:Ins)(p1 p2:Nat)(K:OOk s v x)(ho:x.op=7)(h1:s.regs x.b.toNat < 1):zs_ Tryz.prog 86 [yu_ x,evS v,sr s (csl s p1) (ssl s p2)] (oneL s) (.tup [ys_,.int .i64 186]) ([.gone]) :=  d11_
theorem one7e2 (s:Sta)(v:Evi)(x:Ins)(p1 p2:Nat)(K:OOk s v x)(ho:x.op=7)(h1:¬s.regs x.b.toNat < 1)(h2:s.draws=1099511627776):zs_ Tryz.prog 86 [yu_ x,evS v,sr s (csl s p1) (ssl s p2)] (oneL s) (.tup [ys_,.int .i64 187]) ([.gone]):=by
 have ⟨⟨o0,o1,a0,a1,b0,b1,c0,c1,n0,n1⟩,a2,b2,c2,at0,at1,dr0,dr1,⟨ga0,ga1⟩,⟨gb0,gb1⟩,⟨gc0,gc1⟩,hb,hcl,tm0,tm1,pr0,pr1⟩:=K.all
 simp only[oneL,sr,csl,ssl,evS,yu_,ys_,nilS,List.cons_append,List.nil_append]
 refine zf_ (fn:=Tryz.f86) 5 190 0 rfl rfl rfl rfl rfl u7_ rfl fun w0 M E hro=>?_
 repeat' (first|refine Ctl.h ?_ |((with_reducible intro hif);first |(focus (cases hif;done)) |((try simp only[JH]at hif);try exact hy_)) |((with_reducible first|apply J22 yf_ za_|apply J23 fol yf_ za_|apply J24);(·rfl);(· (simp only[push_cast,↓JP,Nat.reduceAdd,Nat.reduceEqDiff,Nat.reduceLT,Nat.reduceMul,Nat.reduceLeDiff,reduceCtorEq,reduceIte,↓JK,Int.cast_ofNat_Int,ho,h1,(eq_true h2)];rfl));(try kernel_rfl);try exact k68_)|fail)
 apply At.endsRet za_ (fn:=Tryz.f86) (rs:=[.cell 6 105,.tmp 7]) Anc.refl hro (lb_ rfl) rfl
 ·exact yl_
 ·exact k6_
 ·exact k7_
 ·rfl
 ·exact k66_
 ·exact k9_
 ·(intro β;rfl)
 ·exact k66_
theorem one7 (s:Sta)(v:Evi)(x:Ins)(p1 p2:Nat)(K:OOk s v x)(ho:x.op=7)(h1:¬s.regs x.b.toNat < 1)(h2:¬s.draws=1099511627776):zs_ Tryz.prog 86 [yu_ x,evS v,sr s (csl s p1) (ssl s p2)] (oneL s) (.tup [sr { s.put x.a.toNat (drawI v.seed v.process s.draws (s.regs x.b.toNat))with draws:=s.draws+1 } (csl s p1) (ssl s p2),.int .i64 0]) (oneL s):=by
 have ⟨⟨o0,o1,a0,a1,b0,b1,c0,c1,n0,n1⟩,a2,b2,c2,at0,at1,dr0,dr1,⟨ga0,ga1⟩,⟨gb0,gb1⟩,⟨gc0,gc1⟩,hb,hcl,tm0,tm1,pr0,pr1⟩:=K.all
 obtain⟨Y,hY⟩:∃Y,valueI v.seed v.process s.draws=Y:=⟨_,rfl⟩
 have hyb:=valueI_bd v.seed v.process s.draws
 rw[hY]at hyb
 have hD:drawI v.seed v.process s.draws (s.regs x.b.toNat)=belowI Y (s.regs x.b.toNat):=by rw[drawI,hY]
 rw[hD]
 simp only[oneL,sr,csl,ssl,evS,yu_,ys_,nilS,List.cons_append,List.nil_append]
 refine zf_ (fn:=Tryz.f86) 5 190 0 rfl rfl rfl rfl rfl u7_ rfl fun w0 M E hro=>?_
 repeat' (first|refine Ctl.h ?_ |((with_reducible intro hif);first |(focus (cases hif;done)) |((try simp only[JH]at hif);try exact hy_)) |((with_reducible first|apply J22 yf_ za_|apply J23 fol yf_ za_|apply J24);(·rfl);(· (simp only[push_cast,↓JP,Nat.reduceAdd,Nat.reduceEqDiff,Nat.reduceLT,Nat.reduceMul,Nat.reduceLeDiff,reduceCtorEq,reduceIte,↓JK,Int.cast_ofNat_Int,ho,h1,h2,hY];rfl));(try kernel_rfl);try exact k68_)|fail)
 apply At.endsRet za_ (fn:=Tryz.f86) (rs:=[.cell 6 105,.tmp 7]) Anc.refl hro (lb_ rfl) rfl
 ·exact yl_
 ·exact k6_
 ·exact k7_
 ·rfl
 ·exact k66_
 ·exact k9_
 ·exact k67_
 ·exact k66_
theorem one8e1 (s:Sta)(v:Evi)(x:Ins)(p1 p2:Nat)(K:OOk s v x)(ho:x.op=8)(h1:v.ports≤x.n):zs_ Tryz.prog 86 [yu_ x,evS v,sr s (csl s p1) (ssl s p2)] (oneL s) (.tup [ys_,.int .i64 188]) ([.gone]) :=  d11_
theorem one8e2 (s:Sta)(v:Evi)(x:Ins)(p1 p2:Nat)(K:OOk s v x)(ho:x.op=8)(h1:¬v.ports≤x.n)(h2:s.regs x.a.toNat < v.look):zs_ Tryz.prog 86 [yu_ x,evS v,sr s (csl s p1) (ssl s p2)] (oneL s) (.tup [ys_,.int .i64 189]) ([.gone]):=by
 have ⟨⟨o0,o1,a0,a1,b0,b1,c0,c1,n0,n1⟩,a2,b2,c2,at0,at1,dr0,dr1,⟨ga0,ga1⟩,⟨gb0,gb1⟩,⟨gc0,gc1⟩,hb,hcl,tm0,tm1,pr0,pr1⟩:=K.all
 simp only[oneL,sr,csl,ssl,evS,yu_,ys_,nilS,List.cons_append,List.nil_append]
 refine zf_ (fn:=Tryz.f86) 5 190 0 rfl rfl rfl rfl rfl u7_ rfl fun w0 M E hro=>?_
 repeat' (first|refine Ctl.h ?_ |((with_reducible intro hif);first |(focus (cases hif;done)) |((try simp only[JH]at hif);try exact hy_)) |((with_reducible first|apply J22 yf_ za_|apply J23 fol yf_ za_|apply J24);(·rfl);(· (simp only[push_cast,↓JP,Nat.reduceAdd,Nat.reduceEqDiff,Nat.reduceLT,Nat.reduceMul,Nat.reduceLeDiff,reduceCtorEq,reduceIte,↓JK,Int.cast_ofNat_Int,ho,h1,h2];rfl));(try kernel_rfl);try exact k68_)|fail)
 apply At.endsRet za_ (fn:=Tryz.f86) (rs:=[.cell 6 105,.tmp 7]) Anc.refl hro (lb_ rfl) rfl
 ·exact yl_
 ·exact k6_
 ·exact k7_
 ·rfl
 ·exact k66_
 ·exact k9_
 ·(intro β;rfl)
 ·exact k66_
theorem one8e3 (s:Sta)(v:Evi)(x:Ins)(p1 p2:Nat)(K:OOk s v x)(ho:x.op=8)(h1:¬v.ports≤x.n)(h2:¬s.regs x.a.toNat < v.look)(h3:281474976710656 - v.now < s.regs x.a.toNat):zs_ Tryz.prog 86 [yu_ x,evS v,sr s (csl s p1) (ssl s p2)] (oneL s) (.tup [ys_,.int .i64 1800]) ([.gone]):=by
 have ⟨⟨o0,o1,a0,a1,b0,b1,c0,c1,n0,n1⟩,a2,b2,c2,at0,at1,dr0,dr1,⟨ga0,ga1⟩,⟨gb0,gb1⟩,⟨gc0,gc1⟩,hb,hcl,tm0,tm1,pr0,pr1⟩:=K.all
 simp only[oneL,sr,csl,ssl,evS,yu_,ys_,nilS,List.cons_append,List.nil_append]
 refine zf_ (fn:=Tryz.f86) 5 190 0 rfl rfl rfl rfl rfl u7_ rfl fun w0 M E hro=>?_
 repeat' (first|refine Ctl.h ?_ |((with_reducible intro hif);first |(focus (cases hif;done)) |((try simp only[JH]at hif);try exact hy_)) |((with_reducible first|apply J22 yf_ za_|apply J23 fol yf_ za_|apply J24);(·rfl);(· (simp only[push_cast,↓JP,Nat.reduceAdd,Nat.reduceEqDiff,Nat.reduceLT,Nat.reduceMul,Nat.reduceLeDiff,reduceCtorEq,reduceIte,↓JK,Int.cast_ofNat_Int,ho,h1,h2,h3];rfl));(try kernel_rfl);try exact k68_)|fail)
 apply At.endsRet za_ (fn:=Tryz.f86) (rs:=[.cell 6 105,.tmp 7]) Anc.refl hro (lb_ rfl) rfl
 ·exact yl_
 ·exact k6_
 ·exact k7_
 ·rfl
 ·exact k66_
 ·exact k9_
 ·(intro β;rfl)
 ·exact k66_
theorem one8e4 (s:Sta)(v:Evi)(x:Ins)(p1 p2:Nat)(K:OOk s v x)(ho:x.op=8)(h1:¬v.ports≤x.n)(h2:¬s.regs x.a.toNat < v.look)(h3:¬281474976710656 - v.now < s.regs x.a.toNat)(h4:256≤s.sends.length):zs_ Tryz.prog 86 [yu_ x,evS v,sr s (csl s p1) (ssl s p2)] (oneL s) (.tup [ys_,.int .i64 1801]) ([.gone]):=by
 have ⟨⟨o0,o1,a0,a1,b0,b1,c0,c1,n0,n1⟩,a2,b2,c2,at0,at1,dr0,dr1,⟨ga0,ga1⟩,⟨gb0,gb1⟩,⟨gc0,gc1⟩,hb,hcl,tm0,tm1,pr0,pr1⟩:=K.all
 simp only[oneL,sr,csl,ssl,evS,yu_,ys_,nilS,List.cons_append,List.nil_append]
 refine zf_ (fn:=Tryz.f86) 5 190 0 rfl rfl rfl rfl rfl u7_ rfl fun w0 M E hro=>?_
 repeat' (first|refine Ctl.h ?_ |((with_reducible intro hif);first |(focus (cases hif;done)) |((try simp only[JH]at hif);try exact hy_)) |((with_reducible first|apply J22 yf_ za_|apply J23 fol yf_ za_|apply J24);(·rfl);(· exact k74_);(try kernel_rfl);try exact k68_)|fail)
 apply At.endsRet za_ (fn:=Tryz.f86) (rs:=[.cell 6 105,.tmp 7]) Anc.refl hro (lb_ rfl) rfl
 ·exact yl_
 ·exact k6_
 ·exact k7_
 ·rfl
 ·exact k66_
 ·exact k9_
 ·(intro β;rfl)
 ·exact k66_
theorem one8 (s:Sta)(v:Evi)(x:Ins)(p1 p2:Nat)(K:OOk s v x)(ho:x.op=8)(h1:¬v.ports≤x.n)(h2:¬s.regs x.a.toNat < v.look)(h3:¬281474976710656 - v.now < s.regs x.a.toNat)(h4:¬256≤s.sends.length):zs_ Tryz.prog 86 [yu_ x,evS v,sr s (csl s p1) (ssl s p2)] (oneL s) (.tup [sr { s with at_:=s.at_+1,sends:=s.sends++[⟨x.n,s.regs x.a.toNat,s.regs x.b.toNat⟩] } (csl s p1) (.sl 5 5 [] 3 0 (s.sends.length+1) none),.int .i64 0]) (oneL s++[.own 177 (.arr (s.sends.length+1) 3 (zo_ (s.sends++[⟨x.n,s.regs x.a.toNat,s.regs x.b.toNat⟩]))) false]):=by
 have ⟨⟨o0,o1,a0,a1,b0,b1,c0,c1,n0,n1⟩,a2,b2,c2,at0,at1,dr0,dr1,⟨ga0,ga1⟩,⟨gb0,gb1⟩,⟨gc0,gc1⟩,hb,hcl,tm0,tm1,pr0,pr1⟩:=K.all
 simp only[oneL,sr,csl,ssl,evS,yu_,ys_,nilS,List.cons_append,List.nil_append]
 refine zf_ (fn:=Tryz.f86) 5 190 0 rfl rfl rfl rfl rfl u7_ rfl fun w0 M E hro=>?_
 repeat' (first|refine Ctl.h ?_ |((with_reducible intro hif);first |(focus (cases hif;done)) |((try simp only[JH]at hif);try exact hy_)) |((with_reducible first|apply J22 yf_ za_|apply J23 fol yf_ za_|apply J24);(·rfl);(· exact k74_);(try kernel_rfl);try exact k68_)|fail)
 apply At.endsPick [0,1,2,3,4,12] za_ (fn:=Tryz.f86) (rs:=[.cell 6 105,.tmp 7]) Anc.refl hro (lb_ rfl) rfl
 ·exact yl_
 ·exact xz_
 ·rfl
 ·rfl
 ·rfl
 ·(repeat' (first|exact trivial|exact .inl rfl|exact .inr (.same _)|exact .inr .loose|exact .inr (.arr (by assumption))|apply And.intro |(exact .inr (less_sap (y:=⟨x.n,s.regs x.a.toNat,s.regs x.b.toNat⟩) _))))
 ·rfl
 ·exact k66_
 ·exact k9_
 ·exact k67_
 ·exact k66_
theorem one9 (s:Sta)(v:Evi)(x:Ins)(p1 p2:Nat)(K:OOk s v x)(ho:x.op=9):zs_ Tryz.prog 86 [yu_ x,evS v,sr s (csl s p1) (ssl s p2)] (oneL s) (.tup [sr { s with at_:=x.n } (csl s p1) (ssl s p2),.int .i64 0]) (oneL s):=by
 have ⟨⟨o0,o1,a0,a1,b0,b1,c0,c1,n0,n1⟩,a2,b2,c2,at0,at1,dr0,dr1,⟨ga0,ga1⟩,⟨gb0,gb1⟩,⟨gc0,gc1⟩,hb,hcl,tm0,tm1,pr0,pr1⟩:=K.all
 simp only[oneL,sr,csl,ssl,evS,yu_,ys_,nilS,List.cons_append,List.nil_append]
 refine zf_ (fn:=Tryz.f86) 5 190 0 rfl rfl rfl rfl rfl u7_ rfl fun w0 M E hro=>?_
 repeat' (first|refine Ctl.h ?_ |((with_reducible intro hif);first |(focus (cases hif;done)) |((try simp only[JH]at hif);try exact hy_)) |((with_reducible first|apply J22 yf_ za_|apply J23 fol yf_ za_|apply J24);(·rfl);(· (simp only[push_cast,↓JP,Nat.reduceAdd,Nat.reduceEqDiff,Nat.reduceLT,Nat.reduceMul,Nat.reduceLeDiff,reduceCtorEq,reduceIte,↓JK,Int.cast_ofNat_Int,ho];rfl));(try kernel_rfl);try exact k68_)|fail)
 apply At.endsRet za_ (fn:=Tryz.f86) (rs:=[.cell 6 105,.tmp 7]) Anc.refl hro (lb_ rfl) rfl
 ·exact yl_
 ·exact k6_
 ·exact k7_
 ·rfl
 ·exact k66_
 ·exact k9_
 ·exact k67_
 ·exact k66_
theorem one10a (s:Sta)(v:Evi)(x:Ins)(p1 p2:Nat)(K:OOk s v x)(ho:x.op=10)(h1:s.regs x.a.toNat=0):zs_ Tryz.prog 86 [yu_ x,evS v,sr s (csl s p1) (ssl s p2)] (oneL s) (.tup [sr { s with at_:=x.n } (csl s p1) (ssl s p2),.int .i64 0]) (oneL s):=by
 have ⟨⟨o0,o1,a0,a1,b0,b1,c0,c1,n0,n1⟩,a2,b2,c2,at0,at1,dr0,dr1,⟨ga0,ga1⟩,⟨gb0,gb1⟩,⟨gc0,gc1⟩,hb,hcl,tm0,tm1,pr0,pr1⟩:=K.all
 simp only[oneL,sr,csl,ssl,evS,yu_,ys_,nilS,List.cons_append,List.nil_append]
 refine zf_ (fn:=Tryz.f86) 5 190 0 rfl rfl rfl rfl rfl u7_ rfl fun w0 M E hro=>?_
 repeat' (first|refine Ctl.h ?_ |((with_reducible intro hif);first |(focus (cases hif;done)) |((try simp only[JH]at hif);try exact hy_)) |((with_reducible first|apply J22 yf_ za_|apply J23 fol yf_ za_|apply J24);(·rfl);(· (simp only[push_cast,↓JP,Nat.reduceAdd,Nat.reduceEqDiff,Nat.reduceLT,Nat.reduceMul,Nat.reduceLeDiff,reduceCtorEq,reduceIte,↓JK,Int.cast_ofNat_Int,ho,(eq_true h1)];rfl));(try kernel_rfl);try exact k68_)|fail)
 apply At.endsRet za_ (fn:=Tryz.f86) (rs:=[.cell 6 105,.tmp 7]) Anc.refl hro (lb_ rfl) rfl
 ·exact yl_
 ·exact k6_
 ·exact k7_
 ·rfl
 ·exact k66_
 ·exact k9_
 ·exact k67_
 ·exact k66_
theorem one10b (s:Sta)(v:Evi)(x:Ins)(p1 p2:Nat)(K:OOk s v x)(ho:x.op=10)(h1:¬s.regs x.a.toNat=0):zs_ Tryz.prog 86 [yu_ x,evS v,sr s (csl s p1) (ssl s p2)] (oneL s) (.tup [sr { s with at_:=s.at_+1 } (csl s p1) (ssl s p2),.int .i64 0]) (oneL s) :=  d12_
theorem one11a (s:Sta)(v:Evi)(x:Ins)(p1 p2:Nat)(K:OOk s v x)(ho:x.op=11)(h1:s.regs x.a.toNat < 0):zs_ Tryz.prog 86 [yu_ x,evS v,sr s (csl s p1) (ssl s p2)] (oneL s) (.tup [sr { s with at_:=x.n } (csl s p1) (ssl s p2),.int .i64 0]) (oneL s) :=  d12_
theorem one11b (s:Sta)(v:Evi)(x:Ins)(p1 p2:Nat)(K:OOk s v x)(ho:x.op=11)(h1:¬s.regs x.a.toNat < 0):zs_ Tryz.prog 86 [yu_ x,evS v,sr s (csl s p1) (ssl s p2)] (oneL s) (.tup [sr { s with at_:=s.at_+1 } (csl s p1) (ssl s p2),.int .i64 0]) (oneL s) :=  d12_
theorem one33e (s:Sta)(v:Evi)(x:Ins)(p1 p2:Nat)(K:OOk s v x)(ho:33≤x.op)(ho2:x.op≤49)(h1:¬yp_ (x.op - 32) (s.regs x.c.toNat)=0):zs_ Tryz.prog 86 [yu_ x,evS v,sr s (csl s p1) (ssl s p2)] (oneL s) (.tup [ys_,.int .i64 (yp_ (x.op - 32) (s.regs x.c.toNat))]) ([.gone]):=by
 have ⟨⟨o0,o1,a0,a1,b0,b1,c0,c1,n0,n1⟩,a2,b2,c2,at0,at1,dr0,dr1,⟨ga0,ga1⟩,⟨gb0,gb1⟩,⟨gc0,gc1⟩,hb,hcl,tm0,tm1,pr0,pr1⟩:=K.all
 simp only[oneL,sr,csl,ssl,evS,yu_,ys_,nilS,List.cons_append,List.nil_append]
 refine zf_ (fn:=Tryz.f86) 5 190 0 rfl rfl rfl rfl rfl u7_ rfl fun w0 M E hro=>?_
 repeat' (first|refine Ctl.h ?_ |((with_reducible intro hif);first |(focus (cases hif;done)) |((try simp only[JH]at hif);try exact hy_)) |((with_reducible first|apply J22 yf_ za_|apply J23 fol yf_ za_|apply J24);(·rfl);(· exact k75_);(try kernel_rfl);try exact k68_)|fail)
 apply At.endsRet za_ (fn:=Tryz.f86) (rs:=[.cell 6 105,.tmp 7]) Anc.refl hro (lb_ rfl) rfl
 ·exact yl_
 ·exact k6_
 ·exact k7_
 ·rfl
 ·exact k66_
 ·exact k9_
 ·(intro β;rfl)
 ·exact k66_
theorem one33 (s:Sta)(v:Evi)(x:Ins)(p1 p2:Nat)(K:OOk s v x)(ho:33≤x.op)(ho2:x.op≤49)(h1:yp_ (x.op - 32) (s.regs x.c.toNat)=0):zs_ Tryz.prog 86 [yu_ x,evS v,sr s (csl s p1) (ssl s p2)] (oneL s) (.tup [sr (s.put x.a.toNat (yx_ (x.op - 32) (s.regs x.b.toNat) (s.regs x.c.toNat))) (csl s p1) (ssl s p2),.int .i64 0]) (oneL s):=by
 have ⟨⟨o0,o1,a0,a1,b0,b1,c0,c1,n0,n1⟩,a2,b2,c2,at0,at1,dr0,dr1,⟨ga0,ga1⟩,⟨gb0,gb1⟩,⟨gc0,gc1⟩,hb,hcl,tm0,tm1,pr0,pr1⟩:=K.all
 simp only[oneL,sr,csl,ssl,evS,yu_,ys_,nilS,List.cons_append,List.nil_append]
 refine zf_ (fn:=Tryz.f86) 5 190 0 rfl rfl rfl rfl rfl u7_ rfl fun w0 M E hro=>?_
 repeat' (first|refine Ctl.h ?_ |((with_reducible intro hif);first |(focus (cases hif;done)) |((try simp only[JH]at hif);try exact hy_)) |((with_reducible first|apply J22 yf_ za_|apply J23 fol yf_ za_|apply J24);(·rfl);(· exact k75_);(try kernel_rfl);try exact k68_)|fail)
 apply At.endsRet za_ (fn:=Tryz.f86) (rs:=[.cell 6 105,.tmp 7]) Anc.refl hro (lb_ rfl) rfl
 ·exact yl_
 ·exact k6_
 ·exact k7_
 ·rfl
 ·exact k66_
 ·exact k9_
 ·exact k67_
 ·exact k66_
end Go.Proofs.YtjliakjbdcplcaaGreat.Vm
end
section
namespace Go.Proofs.YtjliakjbdcplcaaGreat.Vm
open Go.RowKit
theorem oneE_lit (s:Sta)(v:Evi)(x:Ins)(p1 p2:Nat)(K:OOk s v x)(hE:doE s v x≠0):zs_ Tryz.prog 86 [yu_ x,evS v,sr s (csl s p1) (ssl s p2)] (oneL s) (.tup [ys_,.int .i64 (doE s v x)]) [.gone]:=by
 rcases K.kr.cls with ho|ho|ho|ho|ho|ho|ho|ho|ho|ho|ho|⟨ho,ho2⟩
 ·exact absurd (by simp[doE,ho]) hE
 ·rw[show doE s v x=184 by simp[doE,ho]];exact one2 s v x p1 p2 K ho
 ·exact absurd (by simp[doE,ho]) hE
 ·exact absurd (by simp[doE,ho]) hE
 ·by_cases h1:s.regs x.b.toNat < 0
  ·rw[show doE s v x=185 by simp[doE,ho,h1]];exact one5e1 s v x p1 p2 K ho h1
  by_cases h2:(s.cells.length:Int)≤s.regs x.b.toNat
  ·rw[show doE s v x=185 by simp[doE,ho,h2]];exact one5e2 s v x p1 p2 K ho h1 h2
  exact absurd (by simp only[doE,ho,h1,h2,or_self,if_false];simp) hE
 ·by_cases h1:s.regs x.b.toNat < 0
  ·rw[show doE s v x=185 by simp[doE,ho,h1]];exact one6e1 s v x p1 p2 K ho h1
  by_cases h2:(s.cells.length:Int)≤s.regs x.b.toNat
  ·rw[show doE s v x=185 by simp[doE,ho,h2]];exact one6e2 s v x p1 p2 K ho h1 h2
  exact absurd (by simp only[doE,ho,h1,h2,or_self,if_false];simp) hE
 ·by_cases h1:s.regs x.b.toNat < 1
  ·rw[show doE s v x=186 by simp[doE,ho,h1]];exact one7e1 s v x p1 p2 K ho h1
  by_cases h2:s.draws=1099511627776
  ·rw[show doE s v x=187 by simp only[doE,ho,h1,h2,if_true,if_false];simp];exact one7e2 s v x p1 p2 K ho h1 h2
  exact absurd (by simp only[doE,ho,h1,h2,if_false];simp) hE
 ·have hd:doE s v x=sendE s v x:=by simp[doE,ho]
  rw[hd]at hE ⊢
  by_cases h1:v.ports≤x.n
  ·rw[show sendE s v x=188 by simp only[sendE,h1,if_true,if_false]];exact one8e1 s v x p1 p2 K ho h1
  by_cases h2:s.regs x.a.toNat < v.look
  ·rw[show sendE s v x=189 by simp only[sendE,h1,h2,if_true,if_false]];exact one8e2 s v x p1 p2 K ho h1 h2
  by_cases h3:281474976710656 - v.now < s.regs x.a.toNat
  ·rw[show sendE s v x=1800 by simp only[sendE,h1,h2,h3,if_true,if_false]];exact one8e3 s v x p1 p2 K ho h1 h2 h3
  by_cases h4:256≤s.sends.length
  ·rw[show sendE s v x=1801 by simp only[sendE,h1,h2,h3,h4,if_true,if_false]];exact one8e4 s v x p1 p2 K ho h1 h2 h3 h4
  exact absurd (by simp only[sendE,h1,h2,h3,h4,if_false]) hE
 ·exact absurd (by simp[doE,ho]) hE
 ·exact absurd (by simp[doE,ho]) hE
 ·exact absurd (by simp[doE,ho]) hE
 ·have hn:∀k:Int,k≤11→¬x.op=k:=fun k hk=>by omega
  have hd:doE s v x=yp_ (x.op - 32) (s.regs x.c.toNat):=by simp only[doE,hn 2 (by decide),hn 5 (by decide),hn 6 (by decide),hn 7 (by decide),hn 8 (by decide),show ¬x.op < 32 by omega,if_false,or_self]
  rw[hd]at hE ⊢
  exact one33e s v x p1 p2 K ho ho2 hE
theorem one6_lit (s:Sta)(v:Evi)(x:Ins)(p1 p2:Nat)(K:OOk s v x)(hE:doE s v x=0)(ho:x.op=6):zs_ Tryz.prog 86 [yu_ x,evS v,sr s (csl s p1) (ssl s p2)] (oneL s) (.tup [sr (doS s v x) (.sl 5 5 [] 1 0 s.cells.length none) (ssl s p2),.int .i64 0]) (oneL s++[.own 2 (.arr s.cells.length 1 (zp_ (doS s v x).cells)) false]):=by
 have h1:¬s.regs x.b.toNat < 0:=fun h=>by simp[doE,ho,h]at hE
 have h2:¬(s.cells.length:Int)≤s.regs x.b.toNat:=fun h=>by simp[doE,ho,h]at hE
 have e:doS s v x={ s with cells:=s.cells.set (s.regs x.b.toNat).toNat (s.regs x.a.toNat),at_:=s.at_+1 }:=by
  rw[doS,hE];simp[ho]
 rw[e]
 exact one6 s v x p1 p2 K ho h1 h2
theorem one8_lit (s:Sta)(v:Evi)(x:Ins)(p1 p2:Nat)(K:OOk s v x)(hE:doE s v x=0)(ho:x.op=8):zs_ Tryz.prog 86 [yu_ x,evS v,sr s (csl s p1) (ssl s p2)] (oneL s) (.tup [sr (doS s v x) (csl s p1) (.sl 5 5 [] 3 0 (s.sends.length+1) none),.int .i64 0]) (oneL s++[.own 177 (.arr (s.sends.length+1) 3 (zo_ (doS s v x).sends)) false]):=by
 have e:doS s v x={ s with at_:=s.at_+1,sends:=s.sends++[⟨x.n,s.regs x.a.toNat,s.regs x.b.toNat⟩] }:=by
  rw[doS,hE];simp[ho]
 rw[e]
 have hd:doE s v x=sendE s v x:=by simp[doE,ho]
 rw[hd]at hE
 have h1:¬v.ports≤x.n:=fun h=>by simp only[sendE,h,if_true,if_false]at hE;exact absurd hE (by decide)
 have h2:¬s.regs x.a.toNat < v.look:=fun h=>by simp only[sendE,h1,h,if_true,if_false]at hE;exact absurd hE (by decide)
 have h3:¬281474976710656 - v.now < s.regs x.a.toNat:=fun h=>by simp only[sendE,h1,h2,h,if_true,if_false]at hE;exact absurd hE (by decide)
 have h4:¬256≤s.sends.length:=fun h=>by simp only[sendE,h1,h2,h3,h,if_true,if_false]at hE;exact absurd hE (by decide)
 exact one8 s v x p1 p2 K ho h1 h2 h3 h4
theorem oneX_lit (s:Sta)(v:Evi)(x:Ins)(p1 p2:Nat)(K:OOk s v x)(hE:doE s v x=0)(h6:x.op≠6)(h8:x.op≠8):zs_ Tryz.prog 86 [yu_ x,evS v,sr s (csl s p1) (ssl s p2)] (oneL s) (.tup [sr (doS s v x) (csl s p1) (ssl s p2),.int .i64 0]) (oneL s):=by
 rcases K.kr.cls with ho|ho|ho|ho|ho|ho|ho|ho|ho|ho|ho|⟨ho,ho2⟩
 ·rw[show doS s v x={ s with ended:=true } by rw[doS,hE];simp[ho]];exact one1 s v x p1 p2 K ho
 ·exact absurd hE (by simp[doE,ho])
 ·rw[show doS s v x=s.put x.a.toNat x.n by rw[doS,hE];simp[ho]];exact one3 s v x p1 p2 K ho
 ·rw[show doS s v x=s.put x.a.toNat (s.regs x.b.toNat) by rw[doS,hE];simp[ho]];exact one4 s v x p1 p2 K ho
 ·have h1:¬s.regs x.b.toNat < 0:=fun h=>by simp[doE,ho,h]at hE
  have h2:¬(s.cells.length:Int)≤s.regs x.b.toNat:=fun h=>by simp[doE,ho,h]at hE
  rw[show doS s v x=s.put x.a.toNat (s.cells.getD (s.regs x.b.toNat).toNat 0) by rw[doS,hE];simp[ho]];exact one5 s v x p1 p2 K ho h1 h2
 ·exact absurd ho h6
 ·have h1:¬s.regs x.b.toNat < 1:=fun h=>by simp[doE,ho,h]at hE
  have h2:¬s.draws=1099511627776:=fun h=>by simp only[doE,ho,h1,h,if_true,if_false]at hE;simp at hE
  rw[show doS s v x={ s.put x.a.toNat (drawI v.seed v.process s.draws (s.regs x.b.toNat))with draws:=s.draws+1 } by rw[doS,hE];simp[ho]];exact one7 s v x p1 p2 K ho h1 h2
 ·exact absurd ho h8
 ·rw[show doS s v x={ s with at_:=x.n } by rw[doS,hE];simp[ho]];exact one9 s v x p1 p2 K ho
 ·by_cases h1:s.regs x.a.toNat=0
  ·rw[show doS s v x={ s with at_:=x.n } by rw[doS,hE];simp[ho,h1]];exact one10a s v x p1 p2 K ho h1
  ·rw[show doS s v x={ s with at_:=s.at_+1 } by rw[doS,hE];simp[ho,h1]];exact one10b s v x p1 p2 K ho h1
 ·by_cases h1:s.regs x.a.toNat < 0
  ·rw[show doS s v x={ s with at_:=x.n } by rw[doS,hE];simp[ho,h1]];exact one11a s v x p1 p2 K ho h1
  ·rw[show doS s v x={ s with at_:=s.at_+1 } by rw[doS,hE];simp[ho,h1]];exact one11b s v x p1 p2 K ho h1
 ·have hn:∀k:Int,k≤11→¬x.op=k:=fun k hk=>by omega
  have hd:doE s v x=yp_ (x.op - 32) (s.regs x.c.toNat):=by simp only[doE,hn 2 (by decide),hn 5 (by decide),hn 6 (by decide),hn 7 (by decide),hn 8 (by decide),show ¬x.op < 32 by omega,if_false,or_self]
  rw[show doS s v x=s.put x.a.toNat (yx_ (x.op - 32) (s.regs x.b.toNat) (s.regs x.c.toNat)) by rw[doS,hE];simp only[hn 1 (by decide),hn 3 (by decide),hn 4 (by decide),hn 5 (by decide),hn 6 (by decide),hn 7 (by decide),hn 8 (by decide),hn 9 (by decide),hn 10 (by decide),hn 11 (by decide),if_false];simp]
  exact one33 s v x p1 p2 K ho ho2 (by rw[←hd];exact hE)
theorem bI_R (b:Bool):R64 (bI b):=by cases b<;>(constructor<;>decide)
theorem zero_R:R64 0:=by constructor<;>decide
theorem applyV_R (op a b:Int)(ha:R64 a)(hb:R64 b):R64 (yx_ op a b):=by
 by_cases h0:yp_ op b=0
 ·have hop:op=1∨op=2∨op=3∨op=4∨op=5∨op=6∨op=7∨op=8∨op=9∨op=10∨op=11∨op=12∨op=13∨op=14∨op=15∨op=16∨op=17:=by
   by_cases h:op < 1∨17 < op
   ·rw[yp_,if_pos h]at h0;exact absurd h0 (by decide)
   ·omega
  have hz:4≤op→op≤6→¬b=0:=by
   intro x y z
   rw[yp_,if_neg (by omega),if_pos ⟨z,x,y⟩]at h0
   exact absurd h0 (by decide)
  rcases hop with h|h|h|h|h|h|h|h|h|h|h|h|h|h|h|h|h<;>subst h
  ·rw[apV1 a b ha hb];exact toInt_R _
  ·rw[apV2 a b ha hb];exact toInt_R _
  ·rw[apV3 a b ha hb];exact toInt_R _
  ·rw[apV4 a b ha hb (hz (by decide) (by decide))];exact toInt_R _
  ·rw[apV5 a b ha hb (hz (by decide) (by decide))];exact toInt_R _
  ·rw[apV6 a b ha hb (hz (by decide) (by decide))];exact toInt_R _
  ·rw[apV7 a b ha hb];exact toInt_R _
  ·rw[apV8 a b ha hb];exact toInt_R _
  ·rw[apV9 a b ha hb];exact toInt_R _
  ·rw[apV10 a b ha hb];exact toInt_R _
  ·rw[apV11 a b ha hb];exact toInt_R _
  ·rw[apV12 a b ha hb];exact toInt_R _
  ·rw[apV13 a b ha hb];exact bI_R _
  ·rw[apV14 a b ha hb];exact bI_R _
  ·rw[apV15 a b ha hb];exact bI_R _
  ·rw[apV16 a b ha hb];split<;>assumption
  ·rw[apV17 a b ha hb];split<;>assumption
 ·rw[yx_,if_neg h0];exact zero_R
theorem put_R {s:Sta}{k:Nat}{y:Int}(hs:∀q,R64 (s.regs q))(hy:R64 y)(q:Nat):R64 ((s.put k y).regs q):=by
 show R64 (if q=k then y else s.regs q)
 split
 ·exact hy
 ·exact hs q
def CR (s:Sta):Prop:=∀k,R64 (s.cells.getD k 0)
theorem doS_R {s:Sta}{v:Evi}{x:Ins}(K:OOk s v x)(hc:CR s):(∀q,R64 ((doS s v x).regs q))∧CR (doS s v x):=by
 have hs:∀q,R64 (s.regs q):=K.g
 have hn:R64 x.n:=⟨K.n0,K.n1⟩
 by_cases hE:doE s v x=0
 ·unfold doS
  rw[if_neg (by simp[hE])]
  by_cases h1:x.op=1
  ·rw[if_pos h1];exact⟨hs,hc⟩
  rw[if_neg h1]
  by_cases h3:x.op=3
  ·rw[if_pos h3];exact⟨put_R hs hn,hc⟩
  rw[if_neg h3]
  by_cases h4:x.op=4
  ·rw[if_pos h4];exact⟨put_R hs (hs _),hc⟩
  rw[if_neg h4]
  by_cases h5:x.op=5
  ·rw[if_pos h5];exact⟨put_R hs (hc _),hc⟩
  rw[if_neg h5]
  by_cases h6:x.op=6
  ·rw[if_pos h6]
   refine⟨hs,fun k=>?_⟩
   show R64 ((s.cells.set _ _).getD k 0)
   rw[List.getD_eq_getElem?_getD,List.getElem?_set]
   split
   ·split
    ·exact hs _
    ·exact zero_R
   ·rw[←List.getD_eq_getElem?_getD];exact hc k
  rw[if_neg h6]
  by_cases h7:x.op=7
  ·rw[if_pos h7]
   have hb:¬s.regs x.b.toNat < 1:=fun h=>by simp[doE,h7,h]at hE
   have hd:=drawI_bd v.seed v.process s.draws (s.regs x.b.toNat) (by omega) (hs x.b.toNat).2
   have hb2:=(hs x.b.toNat).2
   refine⟨fun q=>?_,hc⟩
   exact put_R (s:=s) hs ⟨by omega,by omega⟩ q
  rw[if_neg h7]
  by_cases h8:x.op=8
  ·rw[if_pos h8];exact⟨hs,hc⟩
  rw[if_neg h8]
  by_cases h9:x.op=9
  ·rw[if_pos h9];exact⟨hs,hc⟩
  rw[if_neg h9]
  by_cases h10:x.op=10
  ·rw[if_pos h10];exact⟨hs,hc⟩
  rw[if_neg h10]
  by_cases h11:x.op=11
  ·rw[if_pos h11];exact⟨hs,hc⟩
  rw[if_neg h11]
  exact⟨put_R hs (applyV_R _ _ _ (hs _) (hs _)),hc⟩
 ·rw[doS_bad hE];exact⟨hs,hc⟩
theorem den_sr {β β':Env}{s:Sta}{x y x' y':SV}{e:Int}(hx:x.den β = x'.den β')(hy:y.den β = y'.den β'):(SV.tup [sr s x y,.int .i64 e]).den β =(SV.tup [sr s x' y',.int .i64 e]).den β':=by
 simp only[sr,SV.den,denL,hx,hy]
theorem stable_sr {h:HM}{s:Sta}{x y:SV}{e:Int}(hx:zc_ h x)(hy:zc_ h y):zc_ h (.tup [sr s x y,.int .i64 e]):=by
 simp only[sr,zc_,ze_,hx,hy,and_self,implies_true]
def sROneE:yn_:=fun args h m=>match args with
 | [.agg [v1,v2,v3,v4,v5],.agg [v6,v7,v8,v9,v10],.agg [v11,.bool v12,.arr 8 1 v13,v14,v15,v16]]=>match xm_ h 1 (.tup []) v14,xm_ h 3 (.tup []) v16 with
  | some (c14,n14,f14,r14),some (c16,n16,f16,r16)=>bif isI .u8 v1 && isI .u8 v2 && isI .u8 v3 && isI .u8 v4 && isI .i64 v5 && isI .u64 v6 && isI .i64 v7 && isI .i64 v8 && isI .i64 v9 && isI .i64 v10 && isI .i64 v11 && isI .i64 v15 then some (c14∧c16∧(∀q,q < n14→isI .i64 (f14 q)=true)∧(∀q,q < n16→isSnd (f16 q)=true)∧(∀q,q < 8→isI .i64 (v13 q)=true)∧(OOk ⟨(iOf v11),v12,(fun q=>iOf (v13 q)),(ls iOf n14 f14),(iOf v15),(ls zw_ n16 f16)⟩ ⟨(iOf v6),(iOf v7),(iOf v8),(iOf v9),(iOf v10)⟩ ⟨(iOf v1),(iOf v2),(iOf v3),(iOf v4),(iOf v5)⟩)∧(doE ⟨(iOf v11),v12,(fun q=>iOf (v13 q)),(ls iOf n14 f14),(iOf v15),(ls zw_ n16 f16)⟩ ⟨(iOf v6),(iOf v7),(iOf v8),(iOf v9),(iOf v10)⟩ ⟨(iOf v1),(iOf v2),(iOf v3),(iOf v4),(iOf v5)⟩≠0),.tup [ys_,.int .i64 (doE ⟨(iOf v11),v12,(fun q=>iOf (v13 q)),(ls iOf n14 f14),(iOf v15),(ls zw_ n16 f16)⟩ ⟨(iOf v6),(iOf v7),(iOf v8),(iOf v9),(iOf v10)⟩ ⟨(iOf v1),(iOf v2),(iOf v3),(iOf v4),(iOf v5)⟩)],r14++r16,[])else none
  | _,_=>none
 | _=>none
theorem sROneE_ok:zi_ Tryz.prog 86 sROneE:=by
 refine⟨zg_ (by kernel_rfl),fun args h m c v rd wr hs hm hc w0 M β h' w R hrd hwr hst=>?_⟩
 unfold sROneE at hs
 split at hs
 ·rename_i v1 v2 v3 v4 v5 v6 v7 v8 v9 v10 v11 v12 v13 v14 v15 v16
  split at hs
  ·rename_i c14 n14 f14 r14 c16 n16 f16 r16 a14 a16
   obtain⟨hb,hs⟩:=zl_ hs
   simp only[Option.some.injEq,Prod.mk.injEq]at hs
   obtain⟨rfl,rfl,rfl,rfl⟩:=hs
   simp only[Bool.and_eq_true]at hb
   obtain⟨⟨⟨⟨⟨⟨⟨⟨⟨⟨⟨b1,b2⟩,b3⟩,b4⟩,b5⟩,b6⟩,b7⟩,b8⟩,b9⟩,b10⟩,b11⟩,b15⟩:=hb
   obtain⟨k14,k16,g14,g16,g13,y1,y2⟩:=hc
   obtain⟨A14,p14,d14,e14,t14⟩:=zh_ R a14 k14 (fun i hi=>hrd i (List.mem_append_left _ hi)) (by omega)
   obtain⟨A16,p16,d16,e16,t16⟩:=zh_ R a16 k16 (fun i hi=>hrd i (List.mem_append_right _ hi)) (by omega)
   refine yh_ (views:=[⟨1,(ls iOf n14 f14).length,zp_ (ls iOf n14 f14),A14,p14⟩,⟨3,(ls zw_ n16 f16).length,zo_ (ls zw_ n16 f16),A16,p16⟩]) (oneE_lit ⟨(iOf v11),v12,(fun q=>iOf (v13 q)),(ls iOf n14 f14),(iOf v15),(ls zw_ n16 f16)⟩ ⟨(iOf v6),(iOf v7),(iOf v8),(iOf v9),(iOf v10)⟩ ⟨(iOf v1),(iOf v2),(iOf v3),(iOf v4),(iOf v5)⟩ p14 p16 y1 y2) ?_ R hm hwr ?_ ?_ ?_
   ·exact d37_
   ·exact d38_
   ·exact k72_
   ·exact k72_
  ·cases hs
 ·cases hs
def sROneX:yn_:=fun args h m=>match args with
 | [.agg [v1,v2,v3,v4,v5],.agg [v6,v7,v8,v9,v10],.agg [v11,.bool v12,.arr 8 1 v13,v14,v15,v16]]=>match xm_ h 1 (.tup []) v14,xm_ h 3 (.tup []) v16 with
  | some (c14,n14,f14,r14),some (c16,n16,f16,r16)=>bif isI .u8 v1 && isI .u8 v2 && isI .u8 v3 && isI .u8 v4 && isI .i64 v5 && isI .u64 v6 && isI .i64 v7 && isI .i64 v8 && isI .i64 v9 && isI .i64 v10 && isI .i64 v11 && isI .i64 v15 then some (c14∧c16∧(∀q,q < n14→isI .i64 (f14 q)=true)∧(∀q,q < n16→isSnd (f16 q)=true)∧(∀q,q < 8→isI .i64 (v13 q)=true)∧(OOk ⟨iOf v11,v12,fun q=>iOf (v13 q),ls iOf n14 f14,iOf v15,ls zw_ n16 f16⟩ ⟨iOf v6,iOf v7,iOf v8,iOf v9,iOf v10⟩ ⟨iOf v1,iOf v2,iOf v3,iOf v4,iOf v5⟩)∧(doE ⟨iOf v11,v12,fun q=>iOf (v13 q),ls iOf n14 f14,iOf v15,ls zw_ n16 f16⟩ ⟨iOf v6,iOf v7,iOf v8,iOf v9,iOf v10⟩ ⟨iOf v1,iOf v2,iOf v3,iOf v4,iOf v5⟩=0)∧(iOf v1≠6)∧(iOf v1≠8),.tup [sr (doS ⟨iOf v11,v12,fun q=>iOf (v13 q),ls iOf n14 f14,iOf v15,ls zw_ n16 f16⟩ ⟨iOf v6,iOf v7,iOf v8,iOf v9,iOf v10⟩ ⟨iOf v1,iOf v2,iOf v3,iOf v4,iOf v5⟩) v14 v16,.int .i64 0],r14++r16,[])else none
  | _,_=>none
 | _=>none
theorem sROneX_ok:zi_ Tryz.prog 86 sROneX:=by
 refine⟨zg_ (by kernel_rfl),fun args h m c v rd wr hs hm hc w0 M β h' w R hrd hwr hst=>?_⟩
 unfold sROneX at hs
 split at hs
 ·rename_i v1 v2 v3 v4 v5 v6 v7 v8 v9 v10 v11 v12 v13 v14 v15 v16
  split at hs
  ·rename_i c14 n14 f14 r14 c16 n16 f16 r16 a14 a16
   obtain⟨hb,hs⟩:=zl_ hs
   simp only[Option.some.injEq,Prod.mk.injEq]at hs
   obtain⟨rfl,rfl,rfl,rfl⟩:=hs
   simp only[Bool.and_eq_true]at hb
   obtain⟨⟨⟨⟨⟨⟨⟨⟨⟨⟨⟨b1,b2⟩,b3⟩,b4⟩,b5⟩,b6⟩,b7⟩,b8⟩,b9⟩,b10⟩,b11⟩,b15⟩:=hb
   obtain⟨k14,k16,g14,g16,g13,y1,y2,y3,y4⟩:=hc
   have s14:zc_ h' v14:=by simp only[ze_,zc_]at hst;exact hst.2.2.1.2.2.2.1
   have s16:zc_ h' v16:=by simp only[ze_,zc_]at hst;exact hst.2.2.1.2.2.2.2.2.1
   obtain⟨A14,p14,d14,e14,t14⟩:=zh_ R a14 k14 (fun i hi=>hrd i (List.mem_append_left _ hi)) (by omega)
   obtain⟨A16,p16,d16,e16,t16⟩:=zh_ R a16 k16 (fun i hi=>hrd i (List.mem_append_right _ hi)) (by omega)
   refine callRoV (v':=.nilp) (views:=[⟨1,(ls iOf n14 f14).length,zp_ (ls iOf n14 f14),A14,p14⟩,⟨3,(ls zw_ n16 f16).length,zo_ (ls zw_ n16 f16),A16,p16⟩]) (oneX_lit ⟨iOf v11,v12,fun q=>iOf (v13 q),ls iOf n14 f14,iOf v15,ls zw_ n16 f16⟩ ⟨iOf v6,iOf v7,iOf v8,iOf v9,iOf v10⟩ ⟨iOf v1,iOf v2,iOf v3,iOf v4,iOf v5⟩ p14 p16 y1 y2 y3 y4) ?_ R hm hwr ?_ ?_ ?_ ?_ ?_
   ·exact d37_
   ·exact d38_
   ·exact k72_
   ·exact k72_
   ·intro h2 hb2 hp2
    exact stable_sr (s14.more hb2) (s16.more hb2)
   ·intro β2 β' hv he hbo
    simp only[Vd,zb_,and_true]at hv
    obtain⟨z14,z16⟩:=hv
    have u14:=(zc_.den hbo s14).symm.trans d14
    have u16:=(zc_.den hbo s16).symm.trans d16
    refine den_sr (by rw[u14];simp only[csl,zb_];exact z14) (by rw[u16];simp only[ssl,zb_];exact z16)
  ·cases hs
 ·cases hs
def sROne6:yn_:=fun args h m=>match args with
 | [.agg [v1,v2,v3,v4,v5],.agg [v6,v7,v8,v9,v10],.agg [v11,.bool v12,.arr 8 1 v13,v14,v15,v16]]=>match xm_ h 1 (.tup []) v14,xm_ h 3 (.tup []) v16 with
  | some (c14,n14,f14,r14),some (c16,n16,f16,r16)=>bif isI .u8 v1 && isI .u8 v2 && isI .u8 v3 && isI .u8 v4 && isI .i64 v5 && isI .u64 v6 && isI .i64 v7 && isI .i64 v8 && isI .i64 v9 && isI .i64 v10 && isI .i64 v11 && isI .i64 v15 then some (c14∧c16∧(∀q,q < n14→isI .i64 (f14 q)=true)∧(∀q,q < n16→isSnd (f16 q)=true)∧(∀q,q < 8→isI .i64 (v13 q)=true)∧(OOk ⟨iOf v11,v12,fun q=>iOf (v13 q),ls iOf n14 f14,iOf v15,ls zw_ n16 f16⟩ ⟨iOf v6,iOf v7,iOf v8,iOf v9,iOf v10⟩ ⟨iOf v1,iOf v2,iOf v3,iOf v4,iOf v5⟩)∧(doE ⟨iOf v11,v12,fun q=>iOf (v13 q),ls iOf n14 f14,iOf v15,ls zw_ n16 f16⟩ ⟨iOf v6,iOf v7,iOf v8,iOf v9,iOf v10⟩ ⟨iOf v1,iOf v2,iOf v3,iOf v4,iOf v5⟩=0)∧(iOf v1=6),.tup [sr (doS ⟨iOf v11,v12,fun q=>iOf (v13 q),ls iOf n14 f14,iOf v15,ls zw_ n16 f16⟩ ⟨iOf v6,iOf v7,iOf v8,iOf v9,iOf v10⟩ ⟨iOf v1,iOf v2,iOf v3,iOf v4,iOf v5⟩) (.sl m m [] 1 0 (ls iOf n14 f14).length none) v16,.int .i64 0],r14++r16,[(m,.own 2 (.arr (ls iOf n14 f14).length 1 (zp_ (doS ⟨iOf v11,v12,fun q=>iOf (v13 q),ls iOf n14 f14,iOf v15,ls zw_ n16 f16⟩ ⟨iOf v6,iOf v7,iOf v8,iOf v9,iOf v10⟩ ⟨iOf v1,iOf v2,iOf v3,iOf v4,iOf v5⟩).cells)) false)])else none
  | _,_=>none
 | _=>none
theorem sROne6_ok:zi_ Tryz.prog 86 sROne6:=by
 refine⟨zg_ (by kernel_rfl),fun args h m c v rd wr hs hm hc w0 M β h' w R hrd hwr hst=>?_⟩
 unfold sROne6 at hs
 split at hs
 ·rename_i v1 v2 v3 v4 v5 v6 v7 v8 v9 v10 v11 v12 v13 v14 v15 v16
  split at hs
  ·rename_i c14 n14 f14 r14 c16 n16 f16 r16 a14 a16
   obtain⟨hb,hs⟩:=zl_ hs
   simp only[Option.some.injEq,Prod.mk.injEq]at hs
   obtain⟨rfl,rfl,rfl,rfl⟩:=hs
   simp only[Bool.and_eq_true]at hb
   obtain⟨⟨⟨⟨⟨⟨⟨⟨⟨⟨⟨b1,b2⟩,b3⟩,b4⟩,b5⟩,b6⟩,b7⟩,b8⟩,b9⟩,b10⟩,b11⟩,b15⟩:=hb
   obtain⟨k14,k16,g14,g16,g13,y1,y2,y3⟩:=hc
   have s14:zc_ h' v14:=by simp only[ze_,zc_]at hst;exact hst.2.2.1.2.2.2.1
   have s16:zc_ h' v16:=by simp only[ze_,zc_]at hst;exact hst.2.2.1.2.2.2.2.2.1
   obtain⟨A14,p14,d14,e14,t14⟩:=zh_ R a14 k14 (fun i hi=>hrd i (List.mem_append_left _ hi)) (by omega)
   obtain⟨A16,p16,d16,e16,t16⟩:=zh_ R a16 k16 (fun i hi=>hrd i (List.mem_append_right _ hi)) (by omega)
   refine callRoV (v':=.sl 5 5 [] 1 0 (ls iOf n14 f14).length none) (views:=[⟨1,(ls iOf n14 f14).length,zp_ (ls iOf n14 f14),A14,p14⟩,⟨3,(ls zw_ n16 f16).length,zo_ (ls zw_ n16 f16),A16,p16⟩]) (one6_lit ⟨iOf v11,v12,fun q=>iOf (v13 q),ls iOf n14 f14,iOf v15,ls zw_ n16 f16⟩ ⟨iOf v6,iOf v7,iOf v8,iOf v9,iOf v10⟩ ⟨iOf v1,iOf v2,iOf v3,iOf v4,iOf v5⟩ p14 p16 y1 y2 y3) ?_ R hm hwr ?_ ?_ ?_ ?_ ?_
   ·exact d37_
   ·exact d38_
   ·exact k72_
   ·exact k72_
   ·intro h2 hb2 hp2
    exact stable_sr hp2 (s16.more hb2)
   ·intro β2 β' hv he hbo
    simp only[Vd,zb_,and_true]at hv
    obtain⟨z14,z16⟩:=hv
    have u14:=(zc_.den hbo s14).symm.trans d14
    have u16:=(zc_.den hbo s16).symm.trans d16
    refine den_sr he (by rw[u16];simp only[ssl,zb_];exact z16)
  ·cases hs
 ·cases hs
def sROne8:yn_:=fun args h m=>match args with
 | [.agg [v1,v2,v3,v4,v5],.agg [v6,v7,v8,v9,v10],.agg [v11,.bool v12,.arr 8 1 v13,v14,v15,v16]]=>match xm_ h 1 (.tup []) v14,xm_ h 3 (.tup []) v16 with
  | some (c14,n14,f14,r14),some (c16,n16,f16,r16)=>bif isI .u8 v1 && isI .u8 v2 && isI .u8 v3 && isI .u8 v4 && isI .i64 v5 && isI .u64 v6 && isI .i64 v7 && isI .i64 v8 && isI .i64 v9 && isI .i64 v10 && isI .i64 v11 && isI .i64 v15 then some (c14∧c16∧(∀q,q < n14→isI .i64 (f14 q)=true)∧(∀q,q < n16→isSnd (f16 q)=true)∧(∀q,q < 8→isI .i64 (v13 q)=true)∧(OOk ⟨iOf v11,v12,fun q=>iOf (v13 q),ls iOf n14 f14,iOf v15,ls zw_ n16 f16⟩ ⟨iOf v6,iOf v7,iOf v8,iOf v9,iOf v10⟩ ⟨iOf v1,iOf v2,iOf v3,iOf v4,iOf v5⟩)∧(doE ⟨iOf v11,v12,fun q=>iOf (v13 q),ls iOf n14 f14,iOf v15,ls zw_ n16 f16⟩ ⟨iOf v6,iOf v7,iOf v8,iOf v9,iOf v10⟩ ⟨iOf v1,iOf v2,iOf v3,iOf v4,iOf v5⟩=0)∧(iOf v1=8),.tup [sr (doS ⟨iOf v11,v12,fun q=>iOf (v13 q),ls iOf n14 f14,iOf v15,ls zw_ n16 f16⟩ ⟨iOf v6,iOf v7,iOf v8,iOf v9,iOf v10⟩ ⟨iOf v1,iOf v2,iOf v3,iOf v4,iOf v5⟩) v14 (.sl m m [] 3 0 ((ls zw_ n16 f16).length+1) none),.int .i64 0],r14++r16,[(m,.own 177 (.arr ((ls zw_ n16 f16).length+1) 3 (zo_ (doS ⟨iOf v11,v12,fun q=>iOf (v13 q),ls iOf n14 f14,iOf v15,ls zw_ n16 f16⟩ ⟨iOf v6,iOf v7,iOf v8,iOf v9,iOf v10⟩ ⟨iOf v1,iOf v2,iOf v3,iOf v4,iOf v5⟩).sends)) false)])else none
  | _,_=>none
 | _=>none
theorem sROne8_ok:zi_ Tryz.prog 86 sROne8:=by
 refine⟨zg_ (by kernel_rfl),fun args h m c v rd wr hs hm hc w0 M β h' w R hrd hwr hst=>?_⟩
 unfold sROne8 at hs
 split at hs
 ·rename_i v1 v2 v3 v4 v5 v6 v7 v8 v9 v10 v11 v12 v13 v14 v15 v16
  split at hs
  ·rename_i c14 n14 f14 r14 c16 n16 f16 r16 a14 a16
   obtain⟨hb,hs⟩:=zl_ hs
   simp only[Option.some.injEq,Prod.mk.injEq]at hs
   obtain⟨rfl,rfl,rfl,rfl⟩:=hs
   simp only[Bool.and_eq_true]at hb
   obtain⟨⟨⟨⟨⟨⟨⟨⟨⟨⟨⟨b1,b2⟩,b3⟩,b4⟩,b5⟩,b6⟩,b7⟩,b8⟩,b9⟩,b10⟩,b11⟩,b15⟩:=hb
   obtain⟨k14,k16,g14,g16,g13,y1,y2,y3⟩:=hc
   have s14:zc_ h' v14:=by simp only[ze_,zc_]at hst;exact hst.2.2.1.2.2.2.1
   have s16:zc_ h' v16:=by simp only[ze_,zc_]at hst;exact hst.2.2.1.2.2.2.2.2.1
   obtain⟨A14,p14,d14,e14,t14⟩:=zh_ R a14 k14 (fun i hi=>hrd i (List.mem_append_left _ hi)) (by omega)
   obtain⟨A16,p16,d16,e16,t16⟩:=zh_ R a16 k16 (fun i hi=>hrd i (List.mem_append_right _ hi)) (by omega)
   refine callRoV (v':=.sl 5 5 [] 3 0 ((ls zw_ n16 f16).length+1) none) (views:=[⟨1,(ls iOf n14 f14).length,zp_ (ls iOf n14 f14),A14,p14⟩,⟨3,(ls zw_ n16 f16).length,zo_ (ls zw_ n16 f16),A16,p16⟩]) (one8_lit ⟨iOf v11,v12,fun q=>iOf (v13 q),ls iOf n14 f14,iOf v15,ls zw_ n16 f16⟩ ⟨iOf v6,iOf v7,iOf v8,iOf v9,iOf v10⟩ ⟨iOf v1,iOf v2,iOf v3,iOf v4,iOf v5⟩ p14 p16 y1 y2 y3) ?_ R hm hwr ?_ ?_ ?_ ?_ ?_
   ·exact d37_
   ·exact d38_
   ·exact k72_
   ·exact k72_
   ·intro h2 hb2 hp2
    exact stable_sr (s14.more hb2) hp2
   ·intro β2 β' hv he hbo
    simp only[Vd,zb_,and_true]at hv
    obtain⟨z14,z16⟩:=hv
    have u14:=(zc_.den hbo s14).symm.trans d14
    have u16:=(zc_.den hbo s16).symm.trans d16
    refine den_sr (by rw[u14];simp only[csl,zb_];exact z14) he
  ·cases hs
 ·cases hs
end Go.Proofs.YtjliakjbdcplcaaGreat.Vm
end
section
namespace Go.Proofs.YtjliakjbdcplcaaGreat.Vm
open Go.RowKit
attribute [local push_cast] prS zo_ zp_ xt_ y8_ y7_ y6_ y5_ y4_ xs_ y3_ y2_ y1_ zn_ z2_ z4_ z1_ zu_ zt_ iOf
def beginR (a b c:Int)(j:Nat):Int:=match j with
 | 0=>a
 | 1=>b
 | 2=>c
 | _=>0
theorem rbegin_lit (v tm_ src:Int)(cs:List Int)(p1:Nat)(d:Int)(hm:cs.length≤1000000):zs_ Tryz.prog 38
  [.int .i64 v,.int .i64 tm_,.int .i64 src,.sl 1 2 [] 1 0 cs.length (some p1),.int .i64 d] [.gone,.gone,.ro (.arr cs.length 1 (zp_ cs))]
  (.agg [.nat .i64 0,.bool false,.arr 8 1 (fun j=>.int .i64 (beginR v tm_ src j)),.sl 3 3 [] 1 0 cs.length none,.int .i64 d,.sl 0 0 [] 0 0 0 (some 0)])
  [.gone,.gone,.gone,.own 2 (.arr cs.length 1 (zp_ cs)) false]:=by
 refine zf_ (fn:=Tryz.f38) 3 27 0 rfl rfl rfl rfl rfl u2_ rfl fun w0 M E hro=>?_
 repeat' (first|refine Ctl.h ?_ |((with_reducible intro hif);first |(focus (cases hif;done)) |((try simp only[JH]at hif);try exact hy_)) |((with_reducible first|apply J22 cR18_ok za_|apply J23 fol cR18_ok za_|apply J24);(·rfl);(· (simp only[push_cast,↓JP,Nat.reduceAdd,Nat.reduceEqDiff,Nat.reduceLT,Nat.reduceMul,Nat.reduceLeDiff,reduceCtorEq,reduceIte,↓JK,inN,inR,eq_self,List.all_nil];rfl));(try kernel_rfl);(try (focus (first|exact True.intro |((try simp only[JS,implies_true,forall_const,yc_,z7_,x4_,inN,inR]);(repeat' (first|assumption|exact True.intro|omega|apply And.intro));done)))))|fail)
 apply At.endsPick [0,1,2,5] za_ (fn:=Tryz.f38) (rs:=[.cell 10 105]) Anc.refl hro (lb_ rfl) rfl
 ·exact yl_
 ·exact xz_
 ·rfl
 ·rfl
 ·rfl
 ·(repeat' (first|exact trivial|exact .inl rfl|exact .inr (.same _)|exact .inr .loose|exact .inr (.arr (by assumption))|apply And.intro|exact .inr (.arr fun q hq=>rfl)))
 ·rfl
 ·exact k8_
 ·exact k9_
 ·exact fun β=>rfl
 ·exact k8_
def xc_:yn_:=fun args h m=>match args with
 | [v1,v2,v3,v4,v5]=>match xm_ h 1 (.tup []) v4 with
  | some (c4,n4,f4,r4)=>bif isI .i64 v1 && isI .i64 v2 && isI .i64 v3 && isI .i64 v5 then some (c4∧(∀q,q < n4→isI .i64 (f4 q)=true)∧(n4≤1000000),.agg [.nat .i64 0,.bool false,.arr 8 1 (fun j=>.int .i64 (beginR (iOf v1) (iOf v2) (iOf v3) j)),.sl m m [] 1 0 (ls iOf n4 f4).length none,.int .i64 (iOf v5),.sl 0 0 [] 0 0 0 (some 0)],r4,[(m,.own 2 (.arr (ls iOf n4 f4).length 1 (zp_ (ls iOf n4 f4))) false)])else none
  | _=>none
 | _=>none
theorem sRBegin_ok:zi_ Tryz.prog 38 xc_:=by
 refine⟨zg_ (by kernel_rfl),fun args h m c v rd wr hs hm hc w0 M β h' w R hrd hwr hst=>?_⟩
 unfold xc_ at hs
 split at hs
 ·rename_i v1 v2 v3 v4 v5
  split at hs
  ·rename_i c4 n4 f4 r4 a4
   obtain⟨hb,hs⟩:=zl_ hs
   simp only[Option.some.injEq,Prod.mk.injEq]at hs
   obtain⟨rfl,rfl,rfl,rfl⟩:=hs
   simp only[Bool.and_eq_true]at hb
   obtain⟨⟨⟨b1,b2⟩,b3⟩,b5⟩:=hb
   obtain⟨k4,g4,y1⟩:=hc
   obtain⟨A4,p4,d4,e4,t4⟩:=zh_ R a4 k4 (fun i hi=>hrd i hi) (by omega)
   refine yh_ (views:=[⟨1,(ls iOf n4 f4).length,zp_ (ls iOf n4 f4),A4,p4⟩]) (rbegin_lit (iOf v1) (iOf v2) (iOf v3) (ls iOf n4 f4) p4 (iOf v5) (by rw[zb_];exact y1)) ?_ R hm hwr ?_ ?_ ?_
   ·intro x hx
    simp only[List.mem_cons,List.not_mem_nil,or_false]at hx
    subst hx
    ·exact z5_ t4 e4 g4
   ·intro β1 hv
    simp only[Vd,zb_,and_true]at hv
    have z4:=hv
    simp only[denL,yb_,ya_,z9_,zx_,zb_,z4,d4,zd_ b1,zd_ b2,zd_ b3,zd_ b5]
   ·exact k8_
   ·exact k8_
  ·cases hs
 ·cases hs
end Go.Proofs.YtjliakjbdcplcaaGreat.Vm
end

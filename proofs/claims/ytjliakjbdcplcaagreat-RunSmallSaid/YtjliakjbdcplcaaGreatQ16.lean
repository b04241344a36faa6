import Derived.Test.YtjliakjbdcplcaaGreatQ1
import Derived.Test.YtjliakjbdcplcaaGreatQ7
import Derived.Test.YtjliakjbdcplcaaGreatQ9
import Derived.Test.YtjliakjbdcplcaaGreatQ14
import Derived.Test.YtjliakjbdcplcaaGreatQ15
set_option linter.unusedSimpArgs false
set_option linter.unusedVariables false
set_option maxRecDepth 100000
set_option maxHeartbeats 4000000
section
namespace Go.Proofs.YtjliakjbdcplcaaGreat.Vm
open Go.RowKit
attribute [local push_cast] prS zo_ zp_ xt_ y8_ y7_ y6_ y5_ y4_ xs_ y3_ y2_ y1_ zn_ z2_ z4_ z1_ zu_ zt_ iOf sRVal sRBel sRAp evS yu_ nat_one_i inR inN
def sr (s:Sta)(x y:SV):SV:=.agg [.int .i64 s.at_,.bool s.ended,.arr 8 1 fun q=>.int .i64 (s.regs q),x,.int .i64 s.draws,y]
def csl (s:Sta)(p1:Nat):SV:=.sl 1 2 [] 1 0 s.cells.length (some p1)
def ssl (s:Sta)(p2:Nat):SV:=.sl 3 4 [] 3 0 s.sends.length (some p2)
def nilS:SV:=.sl 0 0 [] 0 0 0 (some 0)
def ys_:SV:=.agg [.nat .i64 0,.bool false,.arr 8 1 fun _=>.nat .i64 0,nilS,.nat .i64 0,nilS]
def oneL (s:Sta):List HB:=[.gone,.gone,.ro (.arr s.cells.length 1 (zp_ s.cells)),.gone,.ro (.arr s.sends.length 3 (zo_ s.sends))]
structure OOk (s:Sta) (v:Evi) (x:Ins):Prop where
 kr:RI x
 kv:VOk v
 ks:SOk s
 g:∀q,-9223372036854775808≤s.regs q∧s.regs q≤9223372036854775807
 n0:-9223372036854775808≤x.n
 n1:x.n≤9223372036854775807
 kb:s.sends.length≤1000
theorem OOk.all {s:Sta}{v:Evi}{x:Ins}(K:OOk s v x):x.ok∧x.a < 8∧x.b < 8∧x.c < 8∧0≤s.at_∧s.at_≤256∧0≤s.draws∧s.draws≤1099511627776∧(-9223372036854775808≤s.regs x.a.toNat∧s.regs x.a.toNat≤9223372036854775807)∧(-9223372036854775808≤s.regs x.b.toNat∧s.regs x.b.toNat≤9223372036854775807)∧(-9223372036854775808≤s.regs x.c.toNat∧s.regs x.c.toNat≤9223372036854775807)∧s.sends.length≤1000∧s.cells.length≤1024∧0≤v.now∧v.now≤281474976710656∧0≤v.process∧v.process≤65536:=
 ⟨K.kr.ok,K.kr.a,K.kr.b,K.kr.c,K.ks.a0,K.ks.a1,K.ks.d0,K.ks.d1,K.g _,K.g _,K.g _,K.kb,K.ks.c1,K.kv.t0,K.kv.t1,K.kv.p0,K.kv.p1⟩
theorem st_den {β : Env}{a b c d e r a' b' c' d' e' r':SV}{f g:Nat→SV}(ha:a.den β = a'.den β)(hb:b.den β = b'.den β)(hf:∀q,q < 8→(f q).cl β =(g q).cl β)(hc:c.den β = c'.den β)(hd:d.den β = d'.den β)(he:e.den β = e'.den β)(hr:r.den β = r'.den β) :
  (SV.tup [.agg [a,b,.arr 8 1 f,c,d,e],r]).den β =(SV.tup [.agg [a',b',.arr 8 1 g,c',d',e'],r']).den β:=by
 have h:=arrCl (k:=1) hf
 have h2:(SV.arr 8 1 f).den β =(SV.arr 8 1 g).den β:=by rw[den_agg rfl,den_agg rfl,h]
 simp only[SV.den]at h2
 simp only[SV.den,denL,ha,hb,hc,hd,he,hr,h2]
theorem less_arL {t n:Nat}{σ : Nat→Nat}{b:Bool}{f:Nat→SV}(l:List Int)(h:∀β q,q < n→(f q).cl β = [.int .i64 (l.getD q 0)]):Less (.own t (.arr n 1 f) b) ((HB.own t (.arr n 1 (zp_ l)) b).ren σ):=by
 have e:(HB.own t (.arr n 1 (zp_ l)) b).ren σ = .own t (.arr n 1 (zp_ l)) b:=rfl
 rw[e]
 exact .val (fun β=>arrCl fun q hq=>by rw[h β q hq];rfl) (fun n1 k1 f1 e=>by injection e with e1 e2 e3;subst e1 e2;exact⟨_,rfl⟩) (fun n1 k1 f1 e=>by injection e with e1 e2 e3;subst e1 e2;exact⟨_,rfl⟩)
theorem getD_setL {l:List Int}{k q:Nat}{y:Int}(hk:k < l.length):(l.set k y).getD q 0=bif decide (q=k)then y else l.getD q 0 :=  d7_
theorem less_cset {t:Nat}{σ : Nat→Nat}{b:Bool}{l:List Int}(k:Nat)(y:Int)(hk:k < l.length):Less (.own t (.arr l.length 1 fun j=>.int .i64 (bif decide (j=k)then y else l.getD j 0)) b) ((HB.own t (.arr l.length 1 (zp_ (l.set k y))) b).ren σ):=
 less_arL _ fun β q hq=>by rw[getD_setL hk];rfl
theorem less_sap {t:Nat}{σ : Nat→Nat}{l:List Snd}{y:Snd}(z:SV):Less (.own t (.arr (l.length+1) 3 fun q=>SV.ite (decide (q < l.length)) (sndS (l.getD q ⟨0,0,0⟩)) ([SV.agg [.int .i64 y.port,.int .i64 y.delay,.int .i64 y.value]].getD (q - l.length) z)) false) ((HB.own t (.arr (l.length+1) 3 (zo_ (l++[y]))) false).ren σ):=by
 have e2:(fun q=>(zo_ (l++[y]) q).ren σ)=zo_ (l++[y]):=by
  funext q;unfold zo_;simp only[sndS,SV.ren,renL]
 simp only[HB.ren,SV.ren,e2]
 refine .val (fun β=>arrCl fun q hq=>?_) (fun n1 k1 f1 e=>by injection e with e1 e2 e3;subst e1 e2;exact⟨_,rfl⟩) (fun n1 k1 f1 e=>by injection e with e1 e2 e3;subst e1 e2;exact⟨_,rfl⟩)
 rw[xk_]
 unfold zo_
 by_cases h:q < l.length
 ·simp only[h,decide_true,cond_true,List.getD_eq_getElem?_getD,List.getElem?_append_left h]
 ·obtain rfl:q=l.length:=by omega
  simp only[Nat.lt_irrefl,decide_false,cond_false,Nat.sub_self,List.getD_eq_getElem?_getD,List.getElem?_append_right (Nat.le_refl _),List.getElem?_cons_zero,Option.getD_some]
  rfl
def cOne:FuncId→Option yn_:=y9_ [(120,sRVal),(119,sRBel),(121,sRAp)]
theorem yf_:∀f S,cOne f=some S→zi_ Tryz.prog f S:=zr_ ⟨sRVal_ok,sRBel_ok,sRAp_ok,trivial⟩
theorem one1 (s:Sta)(v:Evi)(x:Ins)(p1 p2:Nat)(K:OOk s v x)(ho:x.op=1):zs_ Tryz.prog 86 [yu_ x,evS v,sr s (csl s p1) (ssl s p2)] (oneL s) (.tup [sr { s with ended:=true } (csl s p1) (ssl s p2),.int .i64 0]) (oneL s) :=  d8_
theorem one2 (s:Sta)(v:Evi)(x:Ins)(p1 p2:Nat)(K:OOk s v x)(ho:x.op=2):zs_ Tryz.prog 86 [yu_ x,evS v,sr s (csl s p1) (ssl s p2)] (oneL s) (.tup [ys_,.int .i64 184]) ([.gone]):=by
 have ⟨⟨o0,o1,a0,a1,b0,b1,c0,c1,n0,n1⟩,a2,b2,c2,at0,at1,dr0,dr1,⟨ga0,ga1⟩,⟨gb0,gb1⟩,⟨gc0,gc1⟩,hb,hcl,tm0,tm1,pr0,pr1⟩:=K.all
 simp only[oneL,sr,csl,ssl,evS,yu_,ys_,nilS,List.cons_append,List.nil_append]
 refine zf_ (fn:=Tryz.f86) 5 190 0 rfl rfl rfl rfl rfl u7_ rfl fun w0 M E hro=>?_
 repeat' (first|refine Ctl.h ?_ |((with_reducible intro hif);first |(focus (cases hif;done)) |((try simp only[JH]at hif);try exact hy_)) |((with_reducible first|apply J22 yf_ za_|apply J23 fol yf_ za_|apply J24);(·rfl);(· exact k69_);(try kernel_rfl);try exact k68_)|fail)
 apply At.endsRet za_ (fn:=Tryz.f86) (rs:=[.cell 6 105,.tmp 7]) Anc.refl hro (lb_ rfl) rfl
 ·exact yl_
 ·exact k6_
 ·exact k7_
 ·rfl
 ·exact k66_
 ·exact k9_
 ·(intro β;rfl)
 ·exact k66_
theorem one3 (s:Sta)(v:Evi)(x:Ins)(p1 p2:Nat)(K:OOk s v x)(ho:x.op=3):zs_ Tryz.prog 86 [yu_ x,evS v,sr s (csl s p1) (ssl s p2)] (oneL s) (.tup [sr (s.put x.a.toNat x.n) (csl s p1) (ssl s p2),.int .i64 0]) (oneL s) :=  d8_
theorem one4 (s:Sta)(v:Evi)(x:Ins)(p1 p2:Nat)(K:OOk s v x)(ho:x.op=4):zs_ Tryz.prog 86 [yu_ x,evS v,sr s (csl s p1) (ssl s p2)] (oneL s) (.tup [sr (s.put x.a.toNat (s.regs x.b.toNat)) (csl s p1) (ssl s p2),.int .i64 0]) (oneL s) :=  d8_
theorem one5e1 (s:Sta)(v:Evi)(x:Ins)(p1 p2:Nat)(K:OOk s v x)(ho:x.op=5)(h1:s.regs x.b.toNat < 0):zs_ Tryz.prog 86 [yu_ x,evS v,sr s (csl s p1) (ssl s p2)] (oneL s) (.tup [ys_,.int .i64 185]) ([.gone]) :=  d9_
theorem one5e2 (s:Sta)(v:Evi)(x:Ins)(p1 p2:Nat)(K:OOk s v x)(ho:x.op=5)(h1:¬s.regs x.b.toNat < 0)(h2:(s.cells.length:Int)≤s.regs x.b.toNat):zs_ Tryz.prog 86 [yu_ x,evS v,sr s (csl s p1) (ssl s p2)] (oneL s) (.tup [ys_,.int .i64 185]) ([.gone]) :=  d10_
theorem one5 (s:Sta)(v:Evi)(x:Ins)(p1 p2:Nat)(K:OOk s v x)(ho:x.op=5)(h1:¬s.regs x.b.toNat < 0)(h2:¬(s.cells.length:Int)≤s.regs x.b.toNat):zs_ Tryz.prog 86 [yu_ x,evS v,sr s (csl s p1) (ssl s p2)] (oneL s) (.tup [sr (s.put x.a.toNat (s.cells.getD (s.regs x.b.toNat).toNat 0)) (csl s p1) (ssl s p2),.int .i64 0]) (oneL s):=by
 have ⟨⟨o0,o1,a0,a1,b0,b1,c0,c1,n0,n1⟩,a2,b2,c2,at0,at1,dr0,dr1,⟨ga0,ga1⟩,⟨gb0,gb1⟩,⟨gc0,gc1⟩,hb,hcl,tm0,tm1,pr0,pr1⟩:=K.all
 simp only[oneL,sr,csl,ssl,evS,yu_,ys_,nilS,List.cons_append,List.nil_append]
 refine zf_ (fn:=Tryz.f86) 5 190 0 rfl rfl rfl rfl rfl u7_ rfl fun w0 M E hro=>?_
 repeat' (first|refine Ctl.h ?_ |((with_reducible intro hif);first |(focus (cases hif;done)) |((try simp only[JH]at hif);try exact hy_)) |((with_reducible first|apply J22 yf_ za_|apply J23 fol yf_ za_|apply J24);(·rfl);(· exact k71_);(try kernel_rfl);try exact k68_)|fail)
 apply At.endsRet za_ (fn:=Tryz.f86) (rs:=[.cell 6 105,.tmp 7]) Anc.refl hro (lb_ rfl) rfl
 ·exact yl_
 ·exact k6_
 ·exact k7_
 ·rfl
 ·exact k66_
 ·exact k9_
 ·exact k67_
 ·exact k66_
theorem one6e1 (s:Sta)(v:Evi)(x:Ins)(p1 p2:Nat)(K:OOk s v x)(ho:x.op=6)(h1:s.regs x.b.toNat < 0):zs_ Tryz.prog 86 [yu_ x,evS v,sr s (csl s p1) (ssl s p2)] (oneL s) (.tup [ys_,.int .i64 185]) ([.gone]) :=  d9_
theorem one6e2 (s:Sta)(v:Evi)(x:Ins)(p1 p2:Nat)(K:OOk s v x)(ho:x.op=6)(h1:¬s.regs x.b.toNat < 0)(h2:(s.cells.length:Int)≤s.regs x.b.toNat):zs_ Tryz.prog 86 [yu_ x,evS v,sr s (csl s p1) (ssl s p2)] (oneL s) (.tup [ys_,.int .i64 185]) ([.gone]) :=  d10_
theorem one6 (s:Sta)(v:Evi)(x:Ins)(p1 p2:Nat)(K:OOk s v x)(ho:x.op=6)(h1:¬s.regs x.b.toNat < 0)(h2:¬(s.cells.length:Int)≤s.regs x.b.toNat):zs_ Tryz.prog 86 [yu_ x,evS v,sr s (csl s p1) (ssl s p2)] (oneL s) (.tup [sr { s with cells:=s.cells.set (s.regs x.b.toNat).toNat (s.regs x.a.toNat),at_:=s.at_+1 } (.sl 5 5 [] 1 0 s.cells.length none) (ssl s p2),.int .i64 0]) (oneL s++[.own 2 (.arr s.cells.length 1 (zp_ (s.cells.set (s.regs x.b.toNat).toNat (s.regs x.a.toNat)))) false]):=by
 have ⟨⟨o0,o1,a0,a1,b0,b1,c0,c1,n0,n1⟩,a2,b2,c2,at0,at1,dr0,dr1,⟨ga0,ga1⟩,⟨gb0,gb1⟩,⟨gc0,gc1⟩,hb,hcl,tm0,tm1,pr0,pr1⟩:=K.all
 simp only[oneL,sr,csl,ssl,evS,yu_,ys_,nilS,List.cons_append,List.nil_append]
 refine zf_ (fn:=Tryz.f86) 5 190 0 rfl rfl rfl rfl rfl u7_ rfl fun w0 M E hro=>?_
 repeat' (first|refine Ctl.h ?_ |((with_reducible intro hif);first |(focus (cases hif;done)) |((try simp only[JH]at hif);try exact hy_)) |((with_reducible first|apply J22 yf_ za_|apply J23 fol yf_ za_|apply J24);(·rfl);(· exact k71_);(try kernel_rfl);try exact k68_)|fail)
 apply At.endsPick [0,1,2,3,4,10] za_ (fn:=Tryz.f86) (rs:=[.cell 6 105,.tmp 7]) Anc.refl hro (lb_ rfl) rfl
 ·exact yl_
 ·exact xz_
 ·rfl
 ·rfl
 ·rfl
 ·(repeat' (first|exact trivial|exact .inl rfl|exact .inr (.same _)|exact .inr .loose|exact .inr (.arr (by assumption))|apply And.intro |(exact .inr (less_cset _ _ (by omega)))))
 ·rfl
 ·exact k66_
 ·exact k9_
 ·exact k67_
 ·exact k66_
end Go.Proofs.YtjliakjbdcplcaaGreat.Vm
end

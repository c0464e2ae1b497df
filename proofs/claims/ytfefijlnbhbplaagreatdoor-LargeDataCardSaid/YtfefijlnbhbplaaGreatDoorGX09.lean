/- Walks and laws that LargeData asks for. -/
import Derived.Test.YtfefijlnbhbplaaGreatDoorGX05
set_option linter.unusedVariables false
set_option linter.unusedSimpArgs false
set_option maxRecDepth 1000000
set_option maxHeartbeats 6400000
namespace Go.Proofs.YtfefijlnbhbplaaGreatDoor
open Go Lib Go.RowKit Limb Tryz
def signed(a:Bool)(n:Nat):Int:=if a then -(n:Int)else n
theorem zg(z:Int):signed (decide (z<0)) z.natAbs=z:=by unfold signed;split<;>simp_all<;>omega
theorem wS(z:Int):signed (!decide (z<0)) z.natAbs= -z:=by unfold signed;split<;>simp_all<;>omega
theorem uY(w:World)(a b:Option Addr)(x y n m:Nat)(ca cb:Nat)(k:Lay .u32 w a (rep x))(o:Lay .u32 w b (rep y))(p:n=(rep x).length)(q:m=(rep y).length)(r:n<=1099511627776)(u:m<=1099511627776):Calls prog 251 #[.slice a n ca,.slice b m cb] w fun e w'=> ∃a c s,e= .returned (.slice a s c)/\s=(rep (x+y)).length/\s<=c/\Lay .u32 w' a (rep (x+y))/\Below w w w':=by
 subst p q;have:=Ef w a b (rep x) (rep y) ca cb k o (aB _) (aB _) r u;rw[aE,aE]at this;exact this.mono fun e w' ⟨a,c,h1,d,_,f,j⟩=>⟨a,c,_,h1,rfl,d,f,j⟩
theorem mu(w:World)(a b:Option Addr)(x y n m:Nat)(ca cb:Nat)(q:Lay .u32 w a (rep x))(r:Lay .u32 w b (rep y))(f:n=(rep x).length)(j:m=(rep y).length)(u:n<=1099511627776)(d:y<=x):Calls prog 268 #[.slice a n ca,.slice b m cb] w fun e w'=> ∃a c s,e= .returned (.slice a s c)/\s=(rep (x-y)).length/\s<=c/\Lay .u32 w' a (rep (x-y))/\Below w w w':=by
 have:=Cy w a b (rep x) (rep y) n m ca cb q r (aB _) (aB _) f j u (by rw[aE,aE];exact d) (by rw[f,j];exact aS d);rw[aE,aE]at this;exact this.mono fun e w' ⟨a,c,h1,k,_,o,p⟩=>⟨a,c,_,h1,rfl,k,o,p⟩
theorem tr(w:World)(p q:Nat)(v x:Int)(u:Bool)(a:Option Addr)(m n cap:Nat)(hp:IntAt w p v)(hq:IntAt w q x)(U:Lay .u32 w a (rep m))(hn:n=(rep m).length)(hc:n<=cap)(hs:(rep x.natAbs).length<=68719476736)(ht:n<=68719476736):Calls prog 242 #[E p,E q,.bool u,.slice a n cap] w fun e w'=>fD w w' e p (x+signed u m):=by
 obtain⟨b,L,S,z,T,B,hc1,C,j⟩:=hq.use;obtain⟨c0,c1⟩:=j w (Only.refl _ _);have V:=hid j;clear j;rw[<-B.out]at hs;have M:=hid hn;clear hn;obtain⟨r,D⟩:=ξ (x+signed u m);rw[<-D];by_cases O:b=u
 ·subst O;have f:r.natAbs=x.natAbs+m:=by rw[D,T.out];unfold signed;split<;>simp_all<;>omega
  have y:(b=true->r<=0)/\(b=false->0<=r):=(by rw[D,T.out];unfold signed;constructor<;>intro h<;>simp_all<;>omega);have G:=hid f;clear f;have P:=hid y;clear y;have X:(b==b)=true:=by cases b<;>rfl
  clear D;go_enter func242,ntmps242;go_wp2_with fail;refine(uY _ L a x.natAbs m S n z cap C U B.out M.out ω ω).mono ?_;rintro e w1 ⟨a2,c2,s2,rfl,h1,h2,h3,h4⟩;have Q:=hid h1;clear h1;go_wp2_with fail;refine(ck _ p v r _ _ _ _ (hp.below h4) (by rw[G.out];exact h3) (by rw[G.out];exact Q.out) h2 P.out).mono ?_;rintro e w2 ⟨rfl,h5,h6⟩;go_wp2;go_ret;exact⟨rfl,h5,(Only.of_below h4).trans h6 (by simp)⟩
 ·have X:(b==u)=false:=(by cases b<;>cases u<;>simp_all);by_cases Y:m<=x.natAbs
  ·have Z:decide (0<=cX x.natAbs m)=true:=(by unfold cX;split<;>(try split)<;>simp<;>omega);have f:r.natAbs=x.natAbs-m:=by rw[D];rw[T.out]at O;unfold signed;split<;>simp_all<;>omega
   have y:(b=true->r<=0)/\(b=false->0<=r):=by
    have a0:=T.out;rw[D];unfold signed;constructor<;>intro h<;>subst h<;>simp at a0<;>cases u<;>simp_all<;>omega
   have G:=hid f;clear f;have P:=hid y;clear y;have A:=fun k=>df (w.drewN k) L a (rep x.natAbs) (rep m) S n z cap (C.drewN k) (U.drewN k) (aB _) (aB _) (bh _) (bh _) B.out M.out ω ω
   simp only[aE]at A;have I:=hid A;clear A;clear D O;go_enter func242,ntmps242;go_wp2_with fail;refine(I.out 0).mono ?_;rintro e w1 ⟨rfl,k1,rfl⟩;go_wp2_with fail;obtain⟨W,H⟩:=ξ (w.drewN k1);have a3:IntAt W p v:=by rw[H];exact hp
   have R:Lay .u32 W L (rep x.natAbs):=(by rw[H];exact C);have a4:Lay .u32 W a (rep m):=by rw[H];exact U
   have F:Only [] w W:=(by rw[H];exact(Only.refl _ _).drewN _);have e0:=(V.out W F).1;have e1:=(V.out W F).2;rw[<-H];clear H c0 c1;go_region_with (first |(go_at_call 268;refine(mu _ L a x.natAbs m S n z cap ?_ ?_ B.out M.out ω Y).mono ?_;exact R.drew;exact a4.drew;rintro e w1 ⟨a2,c2,s2,rfl,h1,h2,h3,h4⟩;have Q:=hid h1;clear h1;have e0':=(V.out w1 (F.trans (Only.of_below (ps:=[]) (cz h4)) (by simp))).1)|(go_at_call 159;refine(ck _ p v r _ _ _ _ ?_ ?_ ?_ ?_ P.out).mono ?_;exact a3.drew.below h4;rw[G.out];exact h3;rw[G.out];exact Q.out;exact h2;rintro e w2 ⟨rfl,h5,h6⟩));all_goals go_wp2
   all_goals go_ret
   all_goals exact⟨rfl,h5,(F.mono (by simp)).trans ((Only.of_below (ps:=[p]) (cz h4)).trans h6 (by simp)) (by simp)⟩
  ·have Z:decide (0<=cX x.natAbs m)=false:=(by unfold cX;rw[if_pos ω];rfl);have f:r.natAbs=m-x.natAbs:=by rw[D];rw[T.out]at O;unfold signed;split<;>simp_all<;>omega
   have y:(u=true->r<=0)/\(u=false->0<=r):=by
    rw[D];unfold signed;constructor<;>intro h<;>subst h<;>simp<;>omega
   have G:=hid f;clear f;have P:=hid y;clear y;have A:=fun k=>df (w.drewN k) L a (rep x.natAbs) (rep m) S n z cap (C.drewN k) (U.drewN k) (aB _) (aB _) (bh _) (bh _) B.out M.out ω ω
   simp only[aE]at A;have I:=hid A;clear A;clear D O;go_enter func242,ntmps242;go_wp2_with fail;refine(I.out 0).mono ?_;rintro e w1 ⟨rfl,k1,rfl⟩;have H:Only [] w (w.drewN k1):=(Only.refl _ _).drewN _;go_wp2_with fail;refine(mu _ a L m x.natAbs n S cap z (U.drewN k1) (C.drewN k1) M.out B.out ω ω).mono ?_;rintro e w1 ⟨a2,c2,s2,rfl,h1,h2,h3,h4⟩;have Q:=hid h1;clear h1;go_wp2_with fail;refine(ck _ p v r _ _ _ _ ((hp.drewN k1).below h4) (by rw[G.out];exact h3) (by rw[G.out];exact Q.out) h2 P.out).mono ?_;rintro e w2 ⟨rfl,h5,h6⟩;go_wp2;go_ret;exact⟨rfl,h5,(H.mono (by simp)).trans ((Only.of_below (ps:=[p]) h4).trans h6 (by simp)) (by simp)⟩
theorem Ep(w:World)(p q r:Nat)(v x y:Int)(A:IntAt w p v)(B:IntAt w q x)(C:IntAt w r y)(hs:(rep x.natAbs).length<=68719476736)(ht:(rep y.natAbs).length<=68719476736):Calls prog 176 #[E p,E q,E r] w fun e w'=>fD w w' e p (x+y):=by
 obtain⟨b,a,n,cap,f,i,k,s,c⟩:=C.use;obtain⟨D,c1⟩:=c w (Only.refl _ _);clear c;rw[<-i.out]at ht;have d:=fun W h1 u z=>tr W p q v x b a y.natAbs n cap h1 u z i.out k hs ht
 rw[f.out,zg,<-f.out]at d;have j:=hid d;clear d;go_enter func176,ntmps176;go_wp2;go_region_with (go_at_call 242;refine(j.out _ ?_ ?_ ?_).mono ?_;exact A.drew;exact B.drew;exact s.drew;rintro e F ⟨rfl,h5,h6⟩);all_goals go_wp2
 all_goals go_ret
 all_goals exact⟨rfl,h5,Only.of_drew h6⟩
theorem Dk(w:World)(p q r:Nat)(v x y:Int)(A:IntAt w p v)(B:IntAt w q x)(C:IntAt w r y)(hs:(rep x.natAbs).length<=68719476736)(ht:(rep y.natAbs).length<=68719476736):Calls prog 175 #[E p,E q,E r] w fun e w'=>fD w w' e p (x-y):=by
 obtain⟨b,a,n,cap,f,i,k,s,c⟩:=C.use;obtain⟨D,c1⟩:=c w (Only.refl _ _);clear c;rw[<-i.out]at ht;have d:=fun W h1 u z=>tr W p q v x (!b) a y.natAbs n cap h1 u z i.out k hs ht
 rw[f.out,wS,<-f.out,<-Int.sub_eq_add_neg]at d;have j:=hid d;clear d;go_enter func175,ntmps175;go_wp2;go_region_with (go_at_call 242;refine(j.out _ ?_ ?_ ?_).mono ?_;exact A.drew;exact B.drew;exact s.drew;rintro e F ⟨rfl,h5,h6⟩);all_goals go_wp2
 all_goals go_ret
 all_goals exact⟨rfl,h5,Only.of_drew h6⟩
end Go.Proofs.YtfefijlnbhbplaaGreatDoor

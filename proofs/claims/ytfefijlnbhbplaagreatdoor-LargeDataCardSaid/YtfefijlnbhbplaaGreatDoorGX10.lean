/- Walks and laws that LargeData asks for. -/
import Derived.Test.YtfefijlnbhbplaaGreatDoorGX09
set_option linter.unusedVariables false
set_option linter.unusedSimpArgs false
set_option maxRecDepth 1000000
set_option maxHeartbeats 6400000
namespace Go.Proofs.YtfefijlnbhbplaaGreatDoor
open Go Lib Go.RowKit Limb Tryz
theorem jV(w:World)(a b:Option Addr)(x y n m:Nat)(ca cb:Nat)(q:Lay .u32 w a (rep x))(r:Lay .u32 w b (rep y))(u:n=(rep x).length)(v:m=(rep y).length)(z:n<=274877906944)(A:m<=274877906944)(d:n<=ca)(B:0<y):Calls prog 163 #[.slice a n ca,.slice b m cb] w fun e w'=> ∃a ca s b cb t,e=Rt #[.slice a s ca,.slice b t cb]/\s=(rep (x/y)).length/\t=(rep (x%y)).length/\s<=ca/\t<=cb/\Lay .u32 w' a (rep (x/y))/\Lay .u32 w' b (rep (x%y))/\Below w w w':=by
 have:=rO w a b (rep x) (rep y) n m ca cb q r (aB _) (aB _) (bh _) (bh _) u v z A d (by rw[aE];exact B);rw[aE,aE]at this;exact this.mono fun e w' ⟨a,ca,b,cb,h1,f,j,k,o,p⟩=>⟨a,ca,_,b,cb,_,h1,rfl,rfl,f,j,k,o,p⟩
def Dq(w w':World)(e:Ending)(p r:Nat)(y z:Int):Prop:=
 e=Rt #[E p,E r]/\IntAt w' p y/\IntAt w' r z/\Only [p,r] w w'
theorem tJ(x y:Int):(x.tdiv y).natAbs=x.natAbs/y.natAbs:=Int.natAbs_tdiv x y
theorem vq(x y:Int):(x.tmod y).natAbs=x.natAbs%y.natAbs:=Int.natAbs_tmod x y
theorem yG{x y:Int}:((!(decide (x<0)==decide (y<0)))=true->x.tdiv y<=0)/\((!(decide (x<0)==decide (y<0)))=false->0<=x.tdiv y):=by
 constructor<;>intro h<;>by_cases c:x<0<;>by_cases f:y<0<;>simp[c,f]at h
 ·have e:x.tdiv y= -((-x).tdiv y):=(by rw[Int.neg_tdiv,Int.neg_neg]);have:=Int.tdiv_nonneg (a:= -x) (b:=y) ω ω;omega
 ·have e:x.tdiv y= -(x.tdiv (-y)):=(by rw[Int.tdiv_neg,Int.neg_neg]);have:=Int.tdiv_nonneg (a:=x) (b:= -y) ω ω;omega
 ·have e:x.tdiv y=(-x).tdiv (-y):=(by rw[Int.neg_tdiv,Int.tdiv_neg,Int.neg_neg]);rw[e];exact Int.tdiv_nonneg ω ω
 ·exact Int.tdiv_nonneg ω ω
theorem yT{x y:Int}:(decide (x<0)=true->x.tmod y<=0)/\(decide (x<0)=false->0<=x.tmod y):=by
 constructor<;>intro h<;>simp at h
 ·have e:x.tmod y= -((-x).tmod y):=(by rw[Int.neg_tmod,Int.neg_neg]);have:=Int.tmod_nonneg (a:= -x) y ω;omega
 ·exact Int.tmod_nonneg y h
theorem wT(w:World)(p q r s:Nat)(v u x y:Int)(hp:IntAt w p v)(hq:IntAt w q x)(hr:IntAt w r y)(hs:IntAt w s u)(F:p≠s)(hy:y≠0)(lx:(rep x.natAbs).length<=68719476736)(ly:(rep y.natAbs).length<=68719476736):Calls prog 174 #[E p,E q,E r,E s] w fun e w'=>Dq w w' e p s (x.tdiv y) (x.tmod y):=by
 obtain⟨b1,S,n1,z,G,H,T,U,f⟩:=hq.use;obtain⟨b2,V,n2,A,X,I,hc2,Y,j⟩:=hr.use;rw[<-H.out]at lx;rw[<-I.out]at ly;obtain⟨c0,c1⟩:=f w (Only.refl _ _);obtain⟨d0,d1⟩:=j w (Only.refl _ _);clear f j;have B:= @yG x y;have C:= @yT x y;rw[<-G.out,<-X.out]at B;rw[<-G.out]at C;have HQ:=hid B;clear B;have HR:=hid C;clear C;have AQ:=hid (tJ x y);have AR:=hid (vq x y);have M:0<y.natAbs:=ω
 go_enter func174,ntmps174;go_wp2;go_quiet (fail);go_wp2;obtain⟨W,k⟩:=ξ (w.drewN nq);have k1:Lay .u32 W S (rep x.natAbs):=by rw[k];exact U
 have k2:Lay .u32 W V (rep y.natAbs):=by rw[k];exact Y
 have kp:IntAt W p v:=by rw[k];exact hp
 have ks:IntAt W s u:=by rw[k];exact hs
 have e1:W.cell? ⟨q,1,none⟩=some (.slice S n1 z):=by rw[k];exact c1
 have f1:W.cell? ⟨r,1,none⟩=some (.slice V n2 A):=by rw[k];exact d1
 have O:Only [p,s] w W:=by rw[k];exact(Only.refl _ _).drewN _
 rw[<-k];clear k c0 c1 d0 d1;go_upto_region 2 with fail
 go_cut [12,13] (fun q r w'=> ∃a ca s b cb t,q= .slice a s ca/\r= .slice b t cb/\Hid (s=(rep (x.natAbs/y.natAbs)).length)/\Hid (t=(rep (x.natAbs%y.natAbs)).length)/\s<=ca/\t<=cb/\Lay .u32 w' a (rep (x.natAbs/y.natAbs))/\Lay .u32 w' b (rep (x.natAbs%y.natAbs))/\Below W.heap.size W w')
 case first=>
  go_wp2_with fail;go_region_with (go_at_call 163;refine(jV _ S V x.natAbs y.natAbs n1 n2 z A ?_ ?_ H.out I.out ω ω T M).mono ?_;exact k1.drew;exact k2.drew;rintro e w1 ⟨a3,c3,s3,b3,Z,t3,rfl,h1,h2,h3,h4,h5,L,D⟩;have P:=hid h1;clear h1;have Q:=hid h2;clear h2);all_goals go_wp2
  all_goals go_meet
  all_goals exact⟨_,_,_,_,_,_,rfl,rfl,P,Q,h3,h4,h5,L,cz D⟩
 case rest=>
  obtain⟨a3,c3,s3,b3,Z,t3,rfl,rfl,P,Q,h3,h4,h5,L,D⟩:=hcut;go_wp2_with fail;refine(ck _ p v (x.tdiv y) _ _ _ _ (kp.below D) (by rw[AQ.out];exact h5) (by rw[AQ.out];exact P.out) h3 HQ.out).mono ?_;rintro e w2 ⟨rfl,h8,h9⟩;have R:=IntBlocks.one (kp.below D);go_wp2_with fail;refine(ck _ s u (x.tmod y) _ _ _ _ ((ks.below D).only h9 (by simp;exact fun e=>F e.symm) R) (by rw[AR.out];exact L.only h9 (L.bd R)) (by rw[AR.out];exact Q.out) h4 HR.out).mono ?_;rintro e w3 ⟨rfl,h10,h11⟩;go_wp2;go_ret2;refine⟨rfl,h8.only h11 (by simp;exact F) (IntBlocks.one ((ks.below D).only h9 (by simp;exact fun e=>F e.symm) R)),h10,?_⟩;exact O.trans (((Only.of_below (ps:=[p,s]) D).trans h9 (by simp)).trans h11 (by simp)) (by simp)
end Go.Proofs.YtfefijlnbhbplaaGreatDoor

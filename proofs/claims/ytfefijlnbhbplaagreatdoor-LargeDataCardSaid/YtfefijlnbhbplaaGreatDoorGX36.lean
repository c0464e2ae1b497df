/- Walks and laws that LargeData asks for. -/
import Derived.Test.YtfefijlnbhbplaaGreatDoorGX34
set_option linter.unusedVariables false
set_option linter.unusedSimpArgs false
set_option maxRecDepth 1000000
set_option maxHeartbeats 12800000
namespace Go.Proofs.YtfefijlnbhbplaaGreatDoor
open Go Lib Go.RowKit Limb Tryz
theorem Val.mono{r:Option Int}{B C:Nat}{X:World}{b:Bool}{a:Option Addr}{n c:Nat}{k:Int}(h:Val r B X b a n c k)(d:C<=B):Val r C X b a n c k:=by
 cases r with
 |none=>exact h
 |some z=>exact⟨h.1,h.2.1,h.2.2.1.mono d,h.2.2.2⟩
theorem Val.pair{r:Option Int}{B:Nat}{X:World}{b:Bool}{a:Option Addr}{n c:Nat}{k:Int}(h:Val r B X b a n c k){g:Nat}{d f:Value}{j:Bool}{m:Option Addr}{p q:Nat}(u:Row X g 24 [.bool j,.slice m p q]):Val r B ((X.setCell ⟨g,0,none⟩ d).setCell ⟨g,1,none⟩ f) b a n c k:=by
 cases r with
 |none=>exact h
 |some z=>exact⟨h.1,h.2.1,h.2.2.1,⟨h.2.2.2.len,h.2.2.2.le,h.2.2.2.lay.pair u _ _⟩⟩
section
variable {w:World} {b1 b2:Bool} {a1 a2:Option Addr} {n1 c1 n2 c2 g:Nat}
theorem tE{q:FuncId}{r s:Option Int}(P:Row w g 82 [.func (.func q) #[] #[]])(hq:q=34∨q=103)(H: ∀X,Below w w X->Calls prog q #[Ω b1 a1 n1 c1,Ω b2 a2 n2 c2] X fun e X'=>Bh r s X X' e):Calls prog 186 #[Ω b1 a1 n1 c1,Ω b2 a2 n2 c2,E g] w fun e w'=>VRes r w w' e:=by
 obtain⟨M,N,j,B,z⟩:=fI w 24 (.bool b1) (.slice a1 n1 c1) (.bool b2) (.slice a2 n2 c2) (.bool false) (.slice none 0 0);obtain⟨W,A⟩:=ξ (((w.alloc (.cells #[.bool b1,.slice a1 n1 c1] 24)).alloc (.cells #[.bool b2,.slice a2 n2 c2] 24)).alloc (.cells #[.bool false,.slice none 0 0] 24));rw[<-A]at M N j B z;have G:=hid A;obtain⟨k0,k1⟩:=M.two;obtain⟨j0,j1⟩:=N.two;have Q:=(P.below B P.lt).ae 0;simp only[yB,yC]at Q;have R:=hid (H W B);have Y:=hid z;clear A H P M N z;rcases hq with rfl|rfl
 all_goals
  go_enter func186,ntmps186;go_upto_region 1 with fail
  rw[<-G.out];go_wp2_with fail;refine R.out.mono ?_;rintro e V ⟨b,a,n,c,b',a',n',c',k,rfl,hv,hb⟩;have j:=j.below hb j.lt;have D:=τ B hb;have L:=hb.size;clear k0 k1 j0 j1 Q hb R;go_upto_region 2 with fail
  obtain⟨U,S,T,rb,x,O⟩:=fG V 24 (.bool b) (.slice a n c) (.bool b') (.slice a' n' c');rw[<-S];have j:=j.below x j.lt;have F:=τ D x;obtain⟨p0,p1⟩:=T.two;obtain⟨q0,q1,q2,q3⟩:=j.four;have Z:(U.setCell ⟨N2 w,0,none⟩ (.bool b)).cell? ⟨N2 w,0,none⟩=some (.bool b):=(j.af 0 _).ae 0;have e1:((U.setCell ⟨N2 w,0,none⟩ (.bool b)).setCell ⟨N2 w,1,none⟩ (.slice a n c)).cell? ⟨N2 w,1,none⟩=some (.slice a n c):=((j.af 0 _).af 1 _).ae 1;have HF:=hid (show VRes r w ((U.setCell ⟨N2 w,0,none⟩ (.bool b)).setCell ⟨N2 w,1,none⟩ (.slice a n c)) (.returned (.tuple #[Ω b a n c,I k]))from⟨_,_,_,_,_,rfl,hid (((hv.out.1.mono B.size).below x).pair j),aw (aw F ω _) ω _⟩);clear S T rb x O j F hv D L B Y;go_wp2;refine bodyPost_ret (v:= .tuple #[Ω b a n c,I k]) (by simp[results,results186,go_sem,Z,e1]) rfl HF.out
theorem pN{q:FuncId}{r s:Option Int}(P:Row w g 82 [.func (.func q) #[] #[]])(hq:q=34∨q=103)(H: ∀X,Below w w X->Calls prog q #[Ω b1 a1 n1 c1,Ω b2 a2 n2 c2] X fun e X'=>Bh r s X X' e):Calls prog 187 #[Ω b1 a1 n1 c1,Ω b2 a2 n2 c2,E g] w fun e w'=>VRes s w w' e:=by
 obtain⟨M,N,j,B,z⟩:=fI w 24 (.bool b1) (.slice a1 n1 c1) (.bool b2) (.slice a2 n2 c2) (.bool false) (.slice none 0 0);obtain⟨W,A⟩:=ξ (((w.alloc (.cells #[.bool b1,.slice a1 n1 c1] 24)).alloc (.cells #[.bool b2,.slice a2 n2 c2] 24)).alloc (.cells #[.bool false,.slice none 0 0] 24));rw[<-A]at M N j B z;have G:=hid A;obtain⟨k0,k1⟩:=M.two;obtain⟨j0,j1⟩:=N.two;have Q:=(P.below B P.lt).ae 0;simp only[yB,yC]at Q;have R:=hid (H W B);have Y:=hid z;clear A H P M N z;rcases hq with rfl|rfl
 all_goals
  go_enter func187,ntmps187;go_upto_region 1 with fail
  rw[<-G.out];go_wp2_with fail;refine R.out.mono ?_;rintro e V ⟨b,a,n,c,b',a',n',c',k,rfl,hv,hb⟩;have j:=j.below hb j.lt;have D:=τ B hb;have L:=hb.size;clear k0 k1 j0 j1 Q hb R;go_upto_region 2 with fail
  obtain⟨U,S,ra,T,x,O⟩:=fG V 24 (.bool b) (.slice a n c) (.bool b') (.slice a' n' c');rw[<-S];have j:=j.below x j.lt;have F:=τ D x;obtain⟨p0,p1⟩:=T.two;obtain⟨q0,q1,q2,q3⟩:=j.four;have Z:(U.setCell ⟨N2 w,0,none⟩ (.bool b')).cell? ⟨N2 w,0,none⟩=some (.bool b'):=(j.af 0 _).ae 0;have e1:((U.setCell ⟨N2 w,0,none⟩ (.bool b')).setCell ⟨N2 w,1,none⟩ (.slice a' n' c')).cell? ⟨N2 w,1,none⟩=some (.slice a' n' c'):=((j.af 0 _).af 1 _).ae 1;have HF:=hid (show VRes s w ((U.setCell ⟨N2 w,0,none⟩ (.bool b')).setCell ⟨N2 w,1,none⟩ (.slice a' n' c')) (.returned (.tuple #[Ω b' a' n' c',I k]))from⟨_,_,_,_,_,rfl,hid (((hv.out.2.mono B.size).below x).pair j),aw (aw F ω _) ω _⟩);clear S ra T x O j F hv D L B Y;go_wp2;refine bodyPost_ret (v:= .tuple #[Ω b' a' n' c',I k]) (by simp[results,results187,go_sem,Z,e1]) rfl HF.out
theorem rT{k:Nat}{r:Option Int}(D:Row w g 3 [I k])(H: ∀X,Below w w X->Calls prog 189 #[I k,Ω b1 a1 n1 c1,Ω b2 a2 n2 c2] X fun e S=>VRes r X S e):Calls prog 188 #[Ω b1 a1 n1 c1,Ω b2 a2 n2 c2,E g] w fun e w'=>VRes r w w' e:=by
 obtain⟨A,B,f,m,x⟩:=fI w 24 (.bool b1) (.slice a1 n1 c1) (.bool b2) (.slice a2 n2 c2) (.bool false) (.slice none 0 0);obtain⟨W,j⟩:=ξ (((w.alloc (.cells #[.bool b1,.slice a1 n1 c1] 24)).alloc (.cells #[.bool b2,.slice a2 n2 c2] 24)).alloc (.cells #[.bool false,.slice none 0 0] 24));rw[<-j]at A B f m x;have z:=hid j;obtain⟨O,P⟩:=A.two;obtain⟨Q,R⟩:=B.two;have F:=(D.below m D.lt).ae 0;simp only[yB,yC]at F;have G:=hid (H W m);clear j H D A B x;go_enter func188,ntmps188;go_upto_region 1 with fail
 rw[<-z.out];go_wp2_with fail;refine G.out.mono ?_;rintro e V ⟨b,a,n,c,k',rfl,hv,hb⟩;have f:=f.below hb f.lt;have q:=τ m hb;obtain⟨T,U,Y,Z⟩:=f.four;have L:(V.setCell ⟨N2 w,0,none⟩ (.bool b)).cell? ⟨N2 w,0,none⟩=some (.bool b):=(f.af 0 _).ae 0;have M:((V.setCell ⟨N2 w,0,none⟩ (.bool b)).setCell ⟨N2 w,1,none⟩ (.slice a n c)).cell? ⟨N2 w,1,none⟩=some (.slice a n c):=((f.af 0 _).af 1 _).ae 1;have N:=hid (show VRes r w ((V.setCell ⟨N2 w,0,none⟩ (.bool b)).setCell ⟨N2 w,1,none⟩ (.slice a n c)) (.returned (.tuple #[Ω b a n c,I k']))from⟨_,_,_,_,_,rfl,hid ((hv.out.mono m.size).pair f),aw (aw q ω _) ω _⟩);clear O P Q R F hb G f q hv m;go_wp2;refine bodyPost_ret (v:= .tuple #[Ω b a n c,I k']) (by simp[results,results188,go_sem,L,M]) rfl N.out
theorem t6{y:Int}(B:In w y a2 n2)(hs:bC y=false):Calls prog 190 #[Ω b1 a1 n1 c1,Ω (decide (y<0)) a2 n2 c2,E g] w fun e w'=>VRes none w w' e:=by
 obtain⟨b2,j⟩: ∃b,b=decide (y<0):=⟨_,rfl⟩;rw[<-j];obtain⟨F,G,f,z,A⟩:=fI w 24 (.bool b1) (.slice a1 n1 c1) (.bool b2) (.slice a2 n2 c2) (.bool false) (.slice none 0 0);obtain⟨W,k⟩:=ξ (((w.alloc (.cells #[.bool b1,.slice a1 n1 c1] 24)).alloc (.cells #[.bool b2,.slice a2 n2 c2] 24)).alloc (.cells #[.bool false,.slice none 0 0] 24));rw[<-k]at F G f z A;have D:=hid k;obtain⟨T,X⟩:=F.two;obtain⟨Y,Z⟩:=G.two;have L:=B.may;have hS:=dB W (decide (y<0)) a2 (rep y.natAbs) n2 c2 ⟨B.lay.below z,aB _,B.len,B.b63⟩;rw[aZ,L,hs,<-j]at hS;have M:=hid hS;clear k F G A hS L B hs j;go_enter func190,ntmps190;go_upto_region 1 with fail
 rw[<-D.out];go_wp2_with fail;refine M.out.mono ?_;rintro e V ⟨⟨v,rfl,-⟩,hb⟩;obtain⟨U,N,O,q,H⟩:=aA V 24 [.bool false,.slice none 0 0];have f:=(f.below hb f.lt).below q (by have:=hb.size;have:=f.lt;omega);have x:=z.trans ((hb.trans (q.mono hb.size)).mono z.size);obtain⟨x0,x1⟩:=O.two;have P:=hid N;obtain⟨q0,q1,q2,q3⟩:=f.four;have Q:(U.setCell ⟨N2 w,0,none⟩ (.bool false)).cell? ⟨N2 w,0,none⟩=some (.bool false):=(f.af 0 _).ae 0;have R:((U.setCell ⟨N2 w,0,none⟩ (.bool false)).setCell ⟨N2 w,1,none⟩ (.slice none 0 0)).cell? ⟨N2 w,1,none⟩=some (.slice none 0 0):=((f.af 0 _).af 1 _).ae 1;have S:=hid (show VRes none w ((U.setCell ⟨N2 w,0,none⟩ (.bool false)).setCell ⟨N2 w,1,none⟩ (.slice none 0 0)) (.returned (.tuple #[Ω false none 0 0,I 1]))from⟨_,_,_,_,_,rfl,hid (show(1:Int)≠0 by decide),aw (aw x ω _) ω _⟩);clear T X Y Z hb M f x z N q H O;go_upto_region 4 with fail
 rw[<-P.out];go_wp2;refine bodyPost_ret (v:= .tuple #[Ω false none 0 0,I 1]) (by simp[results,results190,go_sem,Q,R]) rfl S.out
theorem BV{y:Int}{q:FuncId}{r:Option Int}(N:Row w g 77 [.func (.func q) #[] #[]])(hq:q=112∨q=31)(G:In w y a2 n2)(hs:bC y=true)(H: ∀X,Below w w X->Calls prog q #[Ω b1 a1 n1 c1,I y] X fun e X'=>VRes r X X' e):Calls prog 190 #[Ω b1 a1 n1 c1,Ω (decide (y<0)) a2 n2 c2,E g] w fun e w'=>VRes r w w' e:=by
 obtain⟨b2,z⟩: ∃b,b=decide (y<0):=⟨_,rfl⟩;rw[<-z];obtain⟨x,M,j,B,F⟩:=fI w 24 (.bool b1) (.slice a1 n1 c1) (.bool b2) (.slice a2 n2 c2) (.bool false) (.slice none 0 0);obtain⟨W,A⟩:=ξ (((w.alloc (.cells #[.bool b1,.slice a1 n1 c1] 24)).alloc (.cells #[.bool b2,.slice a2 n2 c2] 24)).alloc (.cells #[.bool false,.slice none 0 0] 24));rw[<-A]at x M j B F;have L:=hid A;obtain⟨U,Y⟩:=x.two;obtain⟨j0,j1⟩:=M.two;have O:=G.may;have hS:=dB W (decide (y<0)) a2 (rep y.natAbs) n2 c2 ⟨G.lay.below B,aB _,G.len,G.b63⟩;rw[aZ,O,hs,<-z]at hS;have P:=hid hS;have Q:=hid (fun X (h:Below W.heap.size W X)=>H X (τ B h));have R:=hid (N.below B N.lt);clear A F hS O G hs z H N;rcases hq with rfl|rfl
 all_goals
  go_enter func190,ntmps190;go_upto_region 1 with fail
  rw[<-L.out];go_wp2_with fail;refine P.out.mono ?_;rintro e V1 ⟨⟨v,rfl,hvy⟩,hb⟩;obtain rfl:=hvy rfl;have S:=(R.out.below hb R.out.lt).ae 0;have x:=x.below hb x.lt;obtain⟨U,Y⟩:=x.two;simp only[yB,yC]at S;have D:=hid (Q.out V1 hb);have j:=j.below hb j.lt;have m:=τ B hb;clear hb Q P hvy M j0 j1 x;go_wp2_with fail;refine D.out.mono ?_;rintro e V ⟨b,a,n,c,k,rfl,hv,hb⟩;have j:=j.below hb j.lt;have T:=m.size;have m:=τ m hb;obtain⟨q0,q1,q2,q3⟩:=j.four;have Z:(V.setCell ⟨N2 w,0,none⟩ (.bool b)).cell? ⟨N2 w,0,none⟩=some (.bool b):=(j.af 0 _).ae 0;have e1:((V.setCell ⟨N2 w,0,none⟩ (.bool b)).setCell ⟨N2 w,1,none⟩ (.slice a n c)).cell? ⟨N2 w,1,none⟩=some (.slice a n c):=((j.af 0 _).af 1 _).ae 1;have HF:=hid (show VRes r w ((V.setCell ⟨N2 w,0,none⟩ (.bool b)).setCell ⟨N2 w,1,none⟩ (.slice a n c)) (.returned (.tuple #[Ω b a n c,I k]))from⟨_,_,_,_,_,rfl,hid ((hv.out.mono T).pair j),aw (aw m ω _) ω _⟩);clear U Y S hb D j m hv B T;go_wp2;refine bodyPost_ret (v:= .tuple #[Ω b a n c,I k]) (by simp[results,results190,go_sem,Z,e1]) rfl HF.out
end
def EZ(r:Option (List UInt8))(X a:World)(e:Ending):Prop:= ∃s k,e=Rt #[.string s,I k]/\Hid ((match r with |some t=>k=(0:Int)/\s.data.toList=t|none=>k≠0))/\Below X X a
def opS(x y:Int):Option (List UInt8):=if 2<=y/\y<=36 then some (oO y.toNat x)else none
theorem xS{y:Int}(h1:2<=y)(a:y<=36):bC y=true:=by unfold bC;simp;omega
section
variable {w:World} {b1 b2:Bool} {a1 a2:Option Addr} {n1 c1 n2 c2 g:Nat}
theorem AG(y:Int)(h:y<2∨36<y):Calls prog 33 #[Ω b1 a1 n1 c1,I y] w fun e w'=>e=Rt #[.string ⟨#[]⟩,I 1]/\Below w w w':=by
 by_cases d:y<2
 ·have b:decide (y<2)=true:=decide_eq_true d;clear h d;go_enter func33,ntmps33;go_wp2;go_ret2;exact⟨rfl,(Below.refl _ _).alloc ι _⟩
 ·have b:decide (y<2)=false:=decide_eq_false d;have f:decide (36<y)=true:=dT;clear h d;go_enter func33,ntmps33;go_wp2;go_ret2;exact⟨rfl,(Below.refl _ _).alloc ι _⟩
theorem DU{x y:Int}(h1:In w x a1 n1):Calls prog 33 #[Ω (decide (x<0)) a1 n1 c1,I y] w fun e w'=>EZ (opS x y) w w' e:=by
 unfold opS;by_cases h:2<=y/\y<=36
 ·rw[if_pos h];obtain⟨k,rfl⟩: ∃k:Nat,y=(k:Int):=⟨y.toNat,ω⟩;have:=j6 w (decide (x<0)) a1 _ n1 c1 k h1.lay (aB _) h1.len h1.may ω ω;rw[aZ]at this;exact this.mono fun e w' ⟨⟨s,a,b⟩,c⟩=>⟨s,0,a,hid ⟨rfl,b⟩,c⟩
 ·rw[if_neg h];exact(AG y ω).mono fun e w' ⟨a,b⟩=>⟨_,_,a,hid (show(1:Int)≠0 by decide),b⟩
theorem EJ{x y:Int}(H:Row w g 80 [.func (.func 33) #[] #[]])(P:In w x a1 n1)(z:In w y a2 n2):Calls prog 194 #[Ω (decide (x<0)) a1 n1 c1,Ω (decide (y<0)) a2 n2 c2,E g] w fun e w'=>EZ (opS x y) w w' e:=by
 have F:=hid (fun X (h:Below w.heap.size w X)=>DU (c1:=c1) (y:=y) (P.below h));obtain⟨b1,d⟩: ∃b,b=decide (x<0):=⟨_,rfl⟩;obtain⟨b2,j⟩: ∃b,b=decide (y<0):=⟨_,rfl⟩;rw[<-d]at F;rw[<-d,<-j];obtain⟨W,q,m,M,r,D⟩:=fG w 24 (.bool b1) (.slice a1 n1 c1) (.bool b2) (.slice a2 n2 c2);have A:=hid q;obtain⟨N,O⟩:=m.two;obtain⟨S,T⟩:=M.two;have I:=z.may;have hS:=dB W (decide (y<0)) a2 (rep y.natAbs) n2 c2 ⟨z.lay.below r,aB _,z.len,z.b63⟩;rw[aZ,I,<-j]at hS;have G:=hid (H.below r H.lt)
 cases hs:bC y with
 |false=>
  rw[hs]at hS;have B:=hid hS
  have Q:opS x y=none:=by
   unfold opS;rw[if_neg];intro h;rw[xS h.1 h.2]at hs;cases hs
  rw[Q];clear q D hS I z hs d j P H F m M G Q;go_enter func194,ntmps194;go_upto_region 1 with fail
  rw[<-A.out];go_wp2_with fail;refine B.out.mono ?_;rintro e U ⟨⟨v,rfl,-⟩,hb⟩;have L:=hid (τ r hb);clear hb B r N O S T;go_wp2;go_ret2;exact⟨_,_,rfl,hid (show(1:Int)≠0 by decide),L.out⟩
 |true=>
  rw[hs]at hS;have B:=hid hS;clear q D hS I z hs d j P H;go_enter func194,ntmps194;go_upto_region 1 with fail
  rw[<-A.out];go_wp2_with fail;refine B.out.mono ?_;rintro e U ⟨⟨v,rfl,hvy⟩,hb⟩;obtain rfl:=hvy rfl;have R:=(G.out.below hb G.out.lt).ae 0;have m:=m.below hb m.lt;obtain⟨N,O⟩:=m.two;simp only[yB,yC]at R;have p:=τ r hb;have C:=hid (F.out U p);clear hb B F hvy M S T m G;go_wp2_with fail;refine C.out.mono ?_;rintro e V ⟨s,k,rfl,hv,hb⟩;have L:=hid (τ p hb);clear hb C p r N O R;go_wp2;go_ret2;exact⟨_,_,rfl,hv,L.out⟩
def opT(k:Nat)(c:Int):Bool:=if k=27 then decide (c<0)else if k=28 then decide (0<c)else if k=29 then decide (c<=0)else if k=30 then decide (0<=c)else if k=31 then c==0 else c != 0
theorem Ac(c:Int):Calls prog 104 #[I c] w fun e w'=>e= .returned (.bool (opT 27 c))/\w=w':=by
 go_enter func104,ntmps104;go_wp2;go_ret;exact⟨rfl,rfl⟩
theorem A0(c:Int):Calls prog 105 #[I c] w fun e w'=>e= .returned (.bool (opT 28 c))/\w=w':=by
 go_enter func105,ntmps105;go_wp2;go_ret;exact⟨rfl,rfl⟩
theorem A9(c:Int):Calls prog 106 #[I c] w fun e w'=>e= .returned (.bool (opT 29 c))/\w=w':=by
 go_enter func106,ntmps106;go_wp2;go_ret;exact⟨rfl,rfl⟩
theorem Ak(c:Int):Calls prog 107 #[I c] w fun e w'=>e= .returned (.bool (opT 30 c))/\w=w':=by
 go_enter func107,ntmps107;go_wp2;go_ret;exact⟨rfl,rfl⟩
theorem yz(c:Int):Calls prog 108 #[I c] w fun e w'=>e= .returned (.bool (opT 31 c))/\w=w':=by
 go_enter func108,ntmps108;go_wp2;go_ret;exact⟨rfl,rfl⟩
theorem Ah(c:Int):Calls prog 109 #[I c] w fun e w'=>e= .returned (.bool (opT 32 c))/\w=w':=by
 go_enter func109,ntmps109;go_wp2;go_ret;exact⟨rfl,rfl⟩
theorem dw(o k:Nat):Calls prog 117 #[Ψ o,I k] w fun e w'=>e=Rt #[Ψ (if k=0 then o else 0:Nat),I (if k=0 then 1 else if k=4 then 2 else 0:Nat)]/\w=w':=by
 by_cases h0:k=0
 ·subst h0;go_enter func117,ntmps117;go_wp2;go_ret2;exact⟨rfl,rfl⟩
 ·have d:((k:Int)==0)=false:=nE;have b:(k==0)=false:=nE
  by_cases a:k=4
  ·subst a;go_enter func117,ntmps117;go_wp2;go_ret2;exact⟨rfl,rfl⟩
  ·have f:((k:Int)==4)=false:=nE;have c:(k==4)=false:=nE
   rw[if_neg h0,if_neg h0,if_neg a];clear h0 a;go_enter func117,ntmps117;go_wp2;go_ret2;exact⟨rfl,rfl⟩
end
def fnC(f:FuncId)(p:Nat):Value:= .func (.func f) #[] #[E p]
def fnD(f:FuncId):Value:= .func (.func f) #[] #[]
def jX(f:FuncId)(t:TypeId)(v:Value)(X a:World)(e:Ending):Prop:=e= .returned (.func (.func f) #[] #[E X])/\Row a X t [v]/\Below X X a
theorem uK(X:World)(q:FuncId):Calls prog 101 #[.func (.func q) #[] #[]] X fun e j=>jX 186 82 (.func (.func q) #[] #[]) X j e:=by
 obtain⟨W,a,r,b,i⟩:=aA X 82 [.func (.func q) #[] #[]];have d:=hid (show jX 186 82 (.func (.func q) #[] #[]) X W _ from⟨rfl,r,b⟩);have g:=hid a;clear r b i a;go_enter func101,ntmps101;go_wp2;go_ret;rw[<-show W=X.alloc (.cells #[.func (.func q) #[] #[]] 82)from g.out];exact d.out
theorem qw(X:World)(q:FuncId):Calls prog 102 #[.func (.func q) #[] #[]] X fun e j=>jX 187 82 (.func (.func q) #[] #[]) X j e:=by
 obtain⟨W,a,r,b,i⟩:=aA X 82 [.func (.func q) #[] #[]];have d:=hid (show jX 187 82 (.func (.func q) #[] #[]) X W _ from⟨rfl,r,b⟩);have g:=hid a;clear r b i a;go_enter func102,ntmps102;go_wp2;go_ret;rw[<-show W=X.alloc (.cells #[.func (.func q) #[] #[]] 82)from g.out];exact d.out
theorem rY(X:World)(k:Int):Calls prog 110 #[I k] X fun e i=>jX 188 3 (I k) X i e:=by
 obtain⟨W,a,r,b,g⟩:=aA X 3 [I k];have d:=hid (show jX 188 3 (I k) X W _ from⟨rfl,r,b⟩);have f:=hid a;clear r b g a;go_enter func110,ntmps110;go_wp2;go_ret;rw[<-show W=X.alloc (.cells #[I k] 3)from f.out];exact d.out
theorem EE(X:World)(q:FuncId):Calls prog 111 #[.func (.func q) #[] #[]] X fun e j=>jX 190 77 (.func (.func q) #[] #[]) X j e:=by
 obtain⟨W,a,r,b,i⟩:=aA X 77 [.func (.func q) #[] #[]];have d:=hid (show jX 190 77 (.func (.func q) #[] #[]) X W _ from⟨rfl,r,b⟩);have g:=hid a;clear r b i a;go_enter func111,ntmps111;go_wp2;go_ret;rw[<-show W=X.alloc (.cells #[.func (.func q) #[] #[]] 77)from g.out];exact d.out
theorem Fi(X:World)(q:FuncId):Calls prog 114 #[.func (.func q) #[] #[]] X fun e j=>jX 194 80 (.func (.func q) #[] #[]) X j e:=by
 obtain⟨W,a,r,b,i⟩:=aA X 80 [.func (.func q) #[] #[]];have d:=hid (show jX 194 80 (.func (.func q) #[] #[]) X W _ from⟨rfl,r,b⟩);have g:=hid a;clear r b i a;go_enter func114,ntmps114;go_wp2;go_ret;rw[<-show W=X.alloc (.cells #[.func (.func q) #[] #[]] 80)from g.out];exact d.out
def qf(P:Nat->Nat)(k:Nat):Value:=
 match k with
 |20=>fnD 98
 |21=>fnD 99
 |22=>fnD 100
 |23=>fnC 186 (P 23)
 |24=>fnC 187 (P 24)
 |25=>fnC 186 (P 25)
 |26=>fnC 187 (P 26)
 |33=>fnC 188 (P 33)
 |34=>fnC 188 (P 34)
 |35=>fnC 188 (P 35)
 |36=>fnC 190 (P 36)
 |37=>fnD 113
 |39=>fnC 190 (P 39)
 |_=> .nilFunc
def qI(k:Nat):Value:=
 match k with
 |27=>fnD 104
 |28=>fnD 105
 |29=>fnD 106
 |30=>fnD 107
 |31=>fnD 108
 |32=>fnD 109
 |_=> .nilFunc
def pO(P:Nat->Nat)(k:Nat):Value:=
 match k with
 |38=>fnC 194 (P 38)
 |_=> .nilFunc
def FU(P:Nat->Nat)(k:Nat):List Value:=[.int .i64 (k:Nat),qf P k,qI k,pO P k]
def pr(P:Nat->Nat):List Value:=(List.range 20).flatMap fun i=>FU P (20+i)
structure Tab (w:World) (P:Nat->Nat) (g:Nat):Prop where
 row:Row w g 103 (pr P)
 d23:Row w (P 23) 82 [fnD 34]
 d24:Row w (P 24) 82 [fnD 34]
 d25:Row w (P 25) 82 [fnD 103]
 d26:Row w (P 26) 82 [fnD 103]
 b33:Row w (P 33) 3 [I (1:Nat)]
 b34:Row w (P 34) 3 [I (2:Nat)]
 b35:Row w (P 35) 3 [I (3:Nat)]
 s36:Row w (P 36) 77 [fnD 112]
 s38:Row w (P 38) 80 [fnD 33]
 s39:Row w (P 39) 77 [fnD 31]
theorem Eg(w:World):Calls prog 48 #[] w fun e w'=> ∃P g,e= .returned (M g 20 20)/\Tab w' P g/\Below w w w':=by
 go_enter func48,ntmps48;go_wp2_with fail;refine(uK w 34).mono ?_;rintro e E ⟨rfl,r23,h23⟩;go_wp2_with fail;refine(qw E 34).mono ?_;rintro e F ⟨rfl,r24,h24⟩;go_wp2_with fail;refine(uK F 103).mono ?_;rintro e G ⟨rfl,r25,h25⟩;go_wp2_with fail;refine(qw G 103).mono ?_;rintro e H ⟨rfl,r26,h26⟩;go_wp2_with fail;refine(rY H 1).mono ?_;rintro e I ⟨rfl,r33,h33⟩;go_wp2_with fail;refine(rY I 2).mono ?_;rintro e L ⟨rfl,r34,h34⟩;go_wp2_with fail;refine(rY L 3).mono ?_;rintro e N ⟨rfl,r35,h35⟩;go_wp2_with fail;refine(EE N 112).mono ?_;rintro e O ⟨rfl,r36,h36⟩;go_wp2_with fail;refine(Fi O 33).mono ?_;rintro e R ⟨rfl,r38,h38⟩;go_wp2_with fail;refine(EE R 31).mono ?_;rintro e b ⟨rfl,r39,h39⟩;obtain⟨P,d⟩: ∃P:Nat->Nat,P=fun k=>([0,0,0,w,E,F,G,0,0,0,0,0,0,H,I,L,N,0,O,R]:List Nat).getD (k-20) 0:=⟨_,rfl⟩
 have hU:Below b b (b.alloc (.cells (pr P).toArray 103)):=(Below.refl _ _).alloc ι _;have ru:Row (b.alloc (.cells (pr P).toArray 103)) b 103 (pr P):=by unfold Row;exact heap_alloc_new _ _
 have i:=hU;have j:=h39.trans (i.mono h39.size);have p:=h38.trans (j.mono h38.size);have q:=h36.trans (p.mono h36.size);have u:=h35.trans (q.mono h35.size);have v:=h34.trans (u.mono h34.size);have x:=h33.trans (v.mono h33.size);have z:=h26.trans (x.mono h26.size);have B:=h25.trans (z.mono h25.size);have C:=h24.trans (B.mono h24.size);have B0:=h23.trans (C.mono h23.size);have S:=r23.below C r23.lt;have T:=r24.below B r24.lt;have U:=r25.below z r25.lt;have V:=r26.below x r26.lt;have X:=r33.below v r33.lt;have Y:=r34.below u r34.lt;have Z:=r35.below q r35.lt;have a0:=r36.below p r36.lt;have a1:=r38.below j r38.lt;have a2:=r39.below i r39.lt;have a3:P 23=w.heap.size:=by rw[d];rfl
 have a4:P 24=E.heap.size:=by rw[d];rfl
 have a5:P 25=F.heap.size:=by rw[d];rfl
 have a6:P 26=G.heap.size:=by rw[d];rfl
 have a7:P 33=H.heap.size:=by rw[d];rfl
 have a8:P 34=I.heap.size:=by rw[d];rfl
 have a9:P 35=L.heap.size:=by rw[d];rfl
 have aa:P 36=N.heap.size:=by rw[d];rfl
 have ab:P 38=O.heap.size:=by rw[d];rfl
 have ac:P 39=R.heap.size:=by rw[d];rfl
 have f:=hid (show∃Q g,Ending.returned (M b 20 20)= .returned (M g 20 20)/\Tab (b.alloc (.cells (pr P).toArray 103)) Q g/\Below w w (b.alloc (.cells (pr P).toArray 103))from⟨P,_,rfl,⟨ru,by rw[a3];exact S,by rw[a4];exact T,by rw[a5];exact U,by rw[a6];exact V,by rw[a7];exact X,by rw[a8];exact Y,by rw[a9];exact Z,by rw[aa];exact a0,by rw[ab];exact a1,by rw[ac];exact a2⟩,B0⟩);rw[d]at f;clear a3 a4 a5 a6 a7 a8 a9 aa ab ac;clear r23 h23 S C r24 h24 T B r25 h25 U z r26 h26 V x r33 h33 X v r34 h34 Y u r35 h35 Z q r36 h36 a0 p r38 h38 a1 j r39 h39 a2 i ru hU B0 d P;go_wp2;go_ret;exact f.out
end Go.Proofs.YtfefijlnbhbplaaGreatDoor

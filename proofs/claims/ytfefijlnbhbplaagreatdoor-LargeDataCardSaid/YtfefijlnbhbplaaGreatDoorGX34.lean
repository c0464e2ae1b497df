/- Walks and laws that LargeData asks for. -/
import Derived.Test.YtfefijlnbhbplaaGreatDoorGX33
import Derived.Test.YtfefijlnbhbplaaGreatDoorGX28
import Derived.Test.YtfefijlnbhbplaaGreatDoorGX23
set_option linter.unusedVariables false
set_option linter.unusedSimpArgs false
set_option maxRecDepth 1000000
set_option maxHeartbeats 12800000
namespace Go.Proofs.YtfefijlnbhbplaaGreatDoor
open Go Lib Go.RowKit Limb Tryz
def EH(k:Int)(w w':World)(e:Ending):Prop:=e=Rt #[Ω false none 0 0,I k]/\Below w w w'
def ER(x n:Int)(w w':World)(e:Ending):Prop:=
 (n<0/\EH 92 w w' e)∨(0<=n/\(Answer true w w' e (x^n.toNat)∨(1024<(rep (x^n.toNat).natAbs).length/\EH 2 w w' e)))
theorem my(w:World)(E:Bool)(a:Option Addr)(l:List Nat)(m cap:Nat)(n x:Int)(G:Lay .u32 w a l)(j:Lim l)(hm:m=l.length)(H:bn E l=true)(R:x=signed E (val l))(hn2:n<=9223372036854775807):Calls prog 31 #[Ω E a m cap,.int .i64 n] w fun e w'=>ER x n w w' e:=by
 obtain⟨W,hWe,r0,f,hW,hsz⟩:=fG w 24 (.bool E) (.slice a m cap) (.bool false) (.slice none 0 0);have HWe:=hid hWe;have hm10:m<=1024:=by rw[hm];exact(bQ j H).2.2
 have hM:=dz W E a l m cap (G.below hW) j hm ω;rw[H]at hM;have HM:=hid hM;have S:=fun(w1:World) (hb:Below W W w1)=>db (At.refl w1) E a l m cap (G.below (τ hW hb)) j hm ω
 rw[<-R]at S;have HWd:=hid S;have lx:(rep x.natAbs).length<=1024:=by rw[R,k9];exact Nat.le_trans (aQ j) ω
 have HLx:=hid lx;have HL':=hid (show(rep x.natAbs).length<=68719476736 from Nat.le_trans lx δ);obtain⟨B,hB⟩:=ξ (dN x.natAbs);have T:=fun X p (h:IntAt X p x)=>oK X p x h HL'.out
 rw[<-hB]at T;have HBL:=hid T;have Y:=hid hB;clear hWe hM S T hB lx R H j hm G;go_enter func31,ntmps31;go_wp2_with fail;rw[<-HWe.out];refine HM.out.mono ?_;rintro e w1 ⟨rfl,hb1⟩;have p0:=r0.below hb1 r0.lt;obtain⟨c0,c1⟩:=p0.two;replace f:=f.below hb1 f.lt;have y:=τ hW hb1;by_cases F:n<0
 ·have d0:decide (n<0)=true:=decide_eq_true F;obtain⟨k0,k1,k2,k3,N,O,P⟩:=f.fin y ω (.bool false) (.slice none 0 0);clear r0 f p0 hb1 y;go_wp2;(try simp only[Exit.inBlock,Exit.then]);exact bodyPost_ret (v:= .tuple #[Ω false none 0 0,.int .i64 92]) (by simp[results,results31,go_sem,N,O]) rfl (.inl ⟨F,rfl,P.out⟩)
 have d0:decide (n<0)=false:=decide_eq_false F;have U:=hid (show 0<=n by omega);go_wp2_with fail;refine(HWd.out w1 hb1).mono ?_;rintro e w2 ⟨p,rfl,Q⟩;go_wp2_with fail;refine(HBL.out w2 p (Q.ints _ (.head _)).1).mono ?_;rintro e w2' ⟨rfl,rfl⟩;have HR1:=hid f;have V:=hid y;replace f:=f.below Q.below f.lt;have z:=y.trans (Q.below.mono y.size);clear c0 c1 p0 r0 HM HWd HBL hb1 y hW d0;by_cases L:n=0∨x.natAbs=1
 ·obtain⟨I,hI⟩: ∃I:Old,I.top=w.heap.size:=⟨⟨w⟩,rfl⟩;have HOf:=hid (fun v (h1: -9223372036854775808<=v) (Q:v<=9223372036854775807)=>oy w2 v h1 Q (by rw[hI];exact z.size));have HI:=hid hI
  have hc:(n=0/\x^n.toNat=1)∨(n≠0/\B=1/\decide (0<d8 x)=true/\x^n.toNat=1)∨(n≠0/\B=1/\decide (0<d8 x)=false/\(n%2==0)=true/\x^n.toNat=1)∨(n≠0/\B=1/\decide (0<d8 x)=false/\(n%2==0)=false/\x^n.toNat= -1):=by
   by_cases h0:n=0
   ·exact .inl ⟨h0,by rw[h0,Int.toNat_zero,Int.pow_zero]⟩
   ·have hx1:x.natAbs=1:=(by rcases L with h|h;exact absurd h h0;exact h);have b1:B=1:=by rw[Y.out];exact BO hx1
    by_cases hp:0<x
    ·exact .inr (.inl ⟨h0,b1,by rw[(ω:x=1)];decide,by rw[(ω:x=1),Int.one_pow]⟩)
    ·have R:x= -1:=ω;by_cases hev:n%2=0
     ·exact .inr (.inr (.inl ⟨h0,b1,by rw[R];decide,by rw[beq_iff_eq];exact hev,by rw[R,gL,if_neg (by have:=U.out;omega)]⟩))
     ·exact .inr (.inr (.inr ⟨h0,b1,by rw[R];decide,by rw[beq_eq_false_iff_ne];exact hev,by rw[R,gL,if_pos (by have:=U.out;omega)]⟩))
  clear L hI;rcases hc with⟨h0,hv⟩|⟨h0,rfl,d2,hv⟩|⟨h0,rfl,d2,d3,hv⟩|⟨h0,rfl,d2,d3,hv⟩
  all_goals
   have HV:=hid hv
   first
    |(have d1:(n==0)=true:=by rw[beq_iff_eq];exact h0)
    |(have d1:(n==0)=false:=by rw[beq_eq_false_iff_ne];exact h0)
   clear hv h0;go_wp2_with fail;(try(refine(jz Q (.head _)).mono ?_;rintro e w2' ⟨rfl,rfl⟩;go_wp2_with fail));refine Calls.mono (by first |with_reducible exact HOf.out 1 δ δ|exact HOf.out (-1) δ δ) ?_;rintro e w5 ⟨u,rfl,L,hb5⟩;obtain⟨Z,a',n',c',rfl,-⟩:=L.open;replace f:=f.below hb5 f.lt;obtain⟨k0,k1,k2,k3,N,O,P⟩:=f.fin (τ z hb5) ω (.bool Z) (.slice a' n' c');have HA:=hid (ApiV.to L (fun _ _ hl=>hl.pair f (.bool Z) (.slice a' n' c')));clear L hb5 z f;go_wp2;(try simp only[Exit.inBlock,Exit.then]);exact bodyPost_ret (v:= .tuple #[Ω Z a' n' c',.int .i64 0]) (by simp[results,results31,go_sem,N,O]) rfl (.inr ⟨U.out,.inl (by rw[HV.out];exact Answer.done HA.out δ P.out (Nat.le_of_eq HI.out.symm))⟩)
 have d1:(n==0)=false:=nE
 obtain⟨k0,k1,k2,k3,N,O,P⟩:=f.fin z ω (.bool false) (.slice none 0 0);by_cases D:x=0
 ·obtain rfl:B=0:=by rw[Y.out,D];decide
  have HZ:=hid (show(0:Int)=x^n.toNat by rw[D,Int.zero_pow ω]);clear D L z Q f;go_wp2;(try simp only[Exit.inBlock,Exit.then]);exact bodyPost_ret (v:= .tuple #[Ω false none 0 0,.int .i64 0]) (by simp[results,results31,go_sem,N,O]) rfl (.inr ⟨U.out,.inl (by rw[<-HZ.out];exact⟨P.out,.inr ⟨δ,_,rfl,none,0,0,rfl,rfl,CapB.none ι,Lay.nil _ _ _⟩⟩)⟩)
 have M:2<=x.natAbs:=ω
 have B2:2<=B:=by rw[Y.out];exact Cr M
 have B3:B<=32768:=by rw[Y.out];exact Cu HLx.out
 obtain⟨C,rfl⟩: ∃C,B=C+1:=⟨B-1,ω⟩;have q2:(((C+1:Nat):Int)==0)=false:=nE
 have q3:(((C+1:Nat):Int)==1)=false:=nE
 have q6:((C+1:Nat):Int)-1=(C:Int):=ω
 have q7:((C:Int)+1==0)=false:=nE
 have q8:((C:Int)+1==1)=false:=nE
 obtain⟨t,q⟩: ∃t:Nat,t=C*n.toNat:=⟨_,rfl⟩;have et:((C:Nat):Int)*n=(t:Int):=by rw[q,Int.natCast_mul,Int.toNat_of_nonneg U.out]
 by_cases hf:32768<n∨32768<t
 ·have HL:=hid (show 1024<(rep (x^n.toNat).natAbs).length from by
   rcases hf with h|h
   ·have:= @tI ⟨0⟩ _ M n.toNat ω;omega
   ·exact AS Y.out (by rw[Nat.add_sub_cancel,<-q];exact h))
  have hq:decide (32768<n)=true∨(decide (32768<n)=false/\decide (32768<t)=true/\decide ((32768:Int)<(t:Int))=true/\t<=1073741824):=by
   by_cases h:32768<n
   ·exact .inl (decide_eq_true h)
   ·have ht:32768<t:=(by rcases hf with k|k;exact absurd k h;exact k);exact .inr ⟨decide_eq_false h,decide_eq_true ht,dT,by rw[q];exact Nat.mul_le_mul (show C<=32768 by omega) (show n.toNat<=32768 by omega)⟩
  clear hf D M L z Q f q;rcases hq with q4|⟨q4,q5,q9,t2⟩
  all_goals
   go_wp2;(try simp only[Exit.inBlock,Exit.then]);exact bodyPost_ret (v:= .tuple #[Ω false none 0 0,.int .i64 2]) (by simp[results,results31,go_sem,N,O]) rfl (.inr ⟨U.out,.inr ⟨HL.out,rfl,P.out⟩⟩)
 obtain⟨k,rfl⟩: ∃k:Nat,n=(k:Int):=⟨n.toNat,ω⟩;rw[Int.toNat_natCast]at q;have lT:(rep (x^k).natAbs).length<=68719476736:=by rw[Int.natAbs_pow];exact AL Y.out ω (by rw[Nat.add_sub_cancel,<-q];omega) ω
 have t1:t<=32768:=ω
 have q4:decide (32768<k)=false:=dF;have q5:decide (32768<t)=false:=dF;have hk2:k<=32768:=ω
 have Hx0:=hid D;clear k0 k1 k2 k3 N O P hf D M L q;go_wp2_with fail;refine(jp Q (k:Int) ω ω).mono ?_;rintro e w3 ⟨r,rfl,h3⟩;go_wp2_with fail;refine(A7 h3 (.tail _ (.head _)) (.tail _ (.head _)) (.head _) Hx0.out ω HL'.out lT).mono ?_;rintro e w4 ⟨rfl,h4⟩;go_wp2_with fail;refine(cd h4 (eI _ (.tail _ (.head _))) lT).mono ?_;rintro e w5 ⟨⟨Z,a',n',c',k',rfl,hnext⟩,h5⟩;have HNx:=hid hnext;have HLE:=hid V.out.size;replace f:=HR1.out.below h5.below HR1.out.lt;obtain⟨k0,k1,k2,k3,N,O,P⟩:=f.fin (V.out.trans (h5.below.mono V.out.size)) ω (.bool Z) (.slice a' n' c');go_wp2;(try simp only[Exit.inBlock,Exit.then]);exact bodyPost_ret (v:= .tuple #[Ω Z a' n' c',.int .i64 k']) (by simp[results,results31,go_sem,N,O]) rfl (.inr ⟨U.out,.inl (HNx.out _ _ P.out (fun l hl=>hl.pair f _ _) HLE.out)⟩)
theorem jS(n:Int):cf 0 n=0:=by
 unfold cf;split
 ·exact Int.zero_mul _
 ·exact Int.zero_ediv _
def FH(x n:Int)(w w':World)(e:Ending):Prop:=Answer true w w' e (cf x n)∨(x≠0/\32768<n/\EH 2 w w' e)
theorem vc(w:World)(j:Bool)(a:Option Addr)(l:List Nat)(m cap:Nat)(n x:Int)(u:Lay .u32 w a l)(f:Lim l)(U:m=l.length)(z:bn j l=true)(Z:x=signed j (val l))(hn1: -9223372036854775808<=n)(hn2:n<=9223372036854775807):Calls prog 112 #[Ω j a m cap,I n] w fun e w'=>FH x n w w' e:=by
 obtain⟨W,P,Y,k,T,hsz⟩:=fG w 24 (.bool j) (.slice a m cap) (.bool false) (.slice none 0 0);have V:=hid P;have a0:m<=1024:=by rw[U];exact(bQ f z).2.2
 have X:=dz W j a l m cap (u.below T) f U ω;rw[z]at X;have HM:=hid X;have E:=fun(w1:World) (hb:Below W W w1)=>db (At.refl w1) j a l m cap (u.below (τ T hb)) f U ω
 rw[<-Z]at E;have M:=hid E;have F:=hid (show(rep x.natAbs).length<=1024 by rw[Z,k9];exact Nat.le_trans (aQ f) ω);have q:=hid (show(rep x.natAbs).length<=68719476736 from Nat.le_trans F.out δ);clear P X E Z z f U u;go_enter func112,ntmps112;go_wp2_with fail;rw[<-V.out];refine HM.out.mono ?_;rintro e w1 ⟨rfl,hb1⟩;have p0:=Y.below hb1 Y.lt;obtain⟨c0,c1⟩:=p0.two;replace k:=k.below hb1 k.lt;have C:=τ T hb1;have N:=hid k;have G:=hid C;go_wp2_with fail;refine(M.out w1 hb1).mono ?_;rintro e w2 ⟨p,rfl,A⟩;go_wp2_with fail;refine(jz A (.head _)).mono ?_;rintro e w2' ⟨rfl,rfl⟩;replace k:=k.below A.below k.lt;obtain⟨k0,k1,k2,k3,Q,R,S⟩:=k.fin (C.trans (A.below.mono C.size)) ω (.bool false) (.slice none 0 0);clear Y k c0 c1 p0 HM M hb1 C T;by_cases h0:x=0
 ·have d0:(d8 x==0)=true:=(by rw[beq_iff_eq,sgnI_zero];exact h0);have O:=hid (show cf x n=0 by rw[h0];exact jS n);clear h0 A;go_wp2;(try simp only[Exit.inBlock,Exit.then]);exact bodyPost_ret (v:= .tuple #[Ω false none 0 0,I 0]) (by simp[results,results112,go_sem,Q,R]) rfl (.inl (by rw[O.out];exact⟨S.out,.inr ⟨δ,_,rfl,none,0,0,rfl,rfl,CapB.none ι,Lay.nil _ _ _⟩⟩))
 have d0:(d8 x==0)=false:=by rw[beq_eq_false_iff_ne,Ne,sgnI_zero];exact h0
 have H0:=hid h0;by_cases hf:32768<n
 ·have d1:decide ((32768:Int)<n)=true:=decide_eq_true hf;have Hf:=hid hf;clear h0 A hf;go_wp2;(try simp only[Exit.inBlock,Exit.then]);exact bodyPost_ret (v:= .tuple #[Ω false none 0 0,I 2]) (by simp[results,results112,go_sem,Q,R]) rfl (.inr ⟨H0.out,Hf.out,rfl,S.out⟩)
 have hc:(∃s:Nat,n=(s:Int)/\s<=32768)∨(∃s:Nat,n= -(s:Int)/\1<=s/\s<=32768)∨n< -32768:=by
  by_cases h1:0<=n
  ·exact .inl ⟨n.toNat,ω,ω⟩
  ·by_cases A: -32768<=n
   ·exact .inr (.inl ⟨n.natAbs,ω,ω,ω⟩)
   ·exact .inr (.inr ω)
 clear h0 hf k0 k1 k2 k3 Q R S;rcases hc with⟨s,rfl,hC⟩|⟨s,rfl,hD,hs⟩|hE
 all_goals
  first
   |(have d1:decide ((32768:Int)<(s:Int))=false:=decide_eq_false (by have:=hC;omega)
     obtain⟨y,B⟩: ∃y:Int,y=x*2^s:=⟨_,rfl⟩;have D:=hid (EV A q.out (show s<=4294967296 by omega));have O:=hid (show cf x (s:Int)=y from by rw[B];unfold cf;rw[if_pos ω];rfl);have H:=hid (show(rep y.natAbs).length<=68719476736 from by rw[B];exact Nat.le_trans (tR F.out (sI (show s<32*1025 by omega))) δ))
   |(have s1:1<=s:=hD
     obtain⟨y,B⟩: ∃y:Int,y=x/2^s:=⟨_,rfl⟩;have D:=hid (CV A q.out (show s<=4294967296 by omega));have O:=hid (show cf x (-(s:Int))=y from by rw[B];unfold cf;rw[if_neg ω,Int.neg_neg];rfl);have H:=hid (show(rep y.natAbs).length<=68719476736 from by rw[B];exact Nat.le_trans (aS (y9 x s)) q.out))
   |(obtain⟨t,ht⟩: ∃t:Nat,t=32768:=⟨_,rfl⟩
     obtain⟨y,B⟩: ∃y:Int,y=x/2^t:=⟨_,rfl⟩;have L:=CV (s:=t) A q.out ω;rw[(ω:((t:Nat):Int)=32768)]at L;have D:=hid L;have O:=hid (show cf x n=y from by rw[B];unfold cf;rw[if_neg ω];exact Dj (c:=1024) F.out ω ω);have H:=hid (show(rep y.natAbs).length<=68719476736 from by rw[B];exact Nat.le_trans (aS (y9 x t)) q.out);clear L ht)
  rw[<-B]at D;clear A B;go_wp2_with fail;refine D.out.mono ?_;rintro e w3 ⟨rfl,h3⟩;go_wp2_with fail;refine(cd h3 (.head _) H.out).mono ?_;rintro e w5 ⟨⟨b',a',n',c',k',rfl,hnext⟩,h5⟩;have HN:=hid hnext;have k:=N.out.below h5.below N.out.lt;obtain⟨k0,k1,k2,k3,Q,R,S⟩:=k.fin (G.out.trans (h5.below.mono G.out.size)) ω (.bool b') (.slice a' n' c');clear hnext h3 h5;go_wp2;(try simp only[Exit.inBlock,Exit.then]);exact bodyPost_ret (v:= .tuple #[Ω b' a' n' c',I k']) (by simp[results,results112,go_sem,Q,R]) rfl (.inl (by rw[O.out];exact HN.out _ _ S.out (fun l hl=>hl.pair k _ _) G.out.size))
local instance:Old:=⟨0⟩
structure In (W:World) (z:Int) (a:Option Addr) (n:Nat):Prop where
 len:n=(rep z.natAbs).length
 le:n<=1024
 lay:Lay .u32 W a (rep z.natAbs)
theorem In.below{W X:World}{z:Int}{a:Option Addr}{n:Nat}(h:In W z a n)(b:Below W W X):In X z a n:=⟨h.len,h.le,h.lay.below b⟩
theorem aZ(z:Int):signed (decide (z<0)) (val (rep z.natAbs))=z:=by
 rw[aE];unfold signed;by_cases h:z<0
 ·simp[h];omega
 ·simp[h];omega
theorem In.may{W:World}{z:Int}{a:Option Addr}{n:Nat}(h:In W z a n):bn (decide (z<0)) (rep z.natAbs)=true:=by
 rw[tc,decide_eq_true (by rw[<-h.len];exact h.le)]
theorem In.b63{W:World}{z:Int}{a:Option Addr}{n:Nat}(h:In W z a n):n<=9223372036854775807:=Nat.le_trans h.le δ
def ofZ(z:Int):Option Int:=if(rep z.natAbs).length<=1024 then some z else none
def Val(r:Option Int)(B:Nat)(X:World)(b:Bool)(a:Option Addr)(n c:Nat)(k:Int):Prop:=
 match r with
 |some z=>k=0/\b=decide (z<0)/\CapB B a n c/\In X z a n
 |none=>k≠0
def VRes(r:Option Int)(X d:World)(e:Ending):Prop:= ∃b a n c k,e=Rt #[Ω b a n c,I k]/\Hid (Val r X d b a n c k)/\Below X X d
theorem Val.below{r:Option Int}{B:Nat}{X Y:World}{b:Bool}{a:Option Addr}{n c:Nat}{k:Int}(h:Val r B X b a n c k)(d:Below X X Y):Val r B Y b a n c k:=by
 cases r with
 |none=>exact h
 |some z=>exact⟨h.1,h.2.1,h.2.2.1,h.2.2.2.below d⟩
theorem VRes.of{z:Int}{X b:World}{e:Ending}(h:Answer true X b e z):VRes (ofZ z) X b e:=by
 have h:kt X b e z:=h;unfold ofZ;obtain⟨d,⟨h1,rfl⟩|⟨h1,v,rfl,a,n,cap,rfl,f,g,i⟩⟩:=h
 ·rw[if_neg ω];exact⟨_,_,_,_,_,rfl,hid (show(2:Int)≠0 by decide),d⟩
 ·rw[if_pos h1];exact⟨_,_,_,_,_,rfl,hid ⟨rfl,rfl,g,⟨f,ω,i⟩⟩,d⟩
theorem VRes.no{k:Int}{X b:World}{e:Ending}(d:k≠0)(h:e=Rt #[Ω false none 0 0,I k]/\Below X X b):VRes none X b e:=
 ⟨_,_,_,_,_,h.1,hid d,h.2⟩
theorem jd{z:Int}(h:1024<(rep z.natAbs).length):ofZ z=none:=by unfold ofZ;rw[if_neg ω]
theorem oV{p q:Bool}{X b:World}{e:Ending}{z:Int}(h:Answer (p&&q) X b e z)(d:p=true)(f:q=true):Answer true X b e z:=by rw[d,f]at h;exact h
section
variable {X:World} {x y:Int} {a1 a2:Option Addr} {n1 n2 c1 c2:Nat} (h1:In X x a1 n1) (h2:In X y a2 n2)
include h1 h2
theorem FE:Calls prog 98 #[Ω (decide (x<0)) a1 n1 c1,Ω (decide (y<0)) a2 n2 c2] X fun e b=>VRes (ofZ (x+y)) X b e:=by
 have:=lJ (.inl ⟨rfl,rfl⟩) (.inl ⟨rfl,rfl⟩) X (decide (x<0)) (decide (y<0)) a1 a2 _ _ n1 n2 c1 c2 h1.lay h2.lay (aB _) (aB _) h1.len h2.len h1.b63 h2.b63;rw[aZ,aZ]at this;exact this.mono fun e b h=>VRes.of (oV h h1.may h2.may)
theorem FL:Calls prog 99 #[Ω (decide (x<0)) a1 n1 c1,Ω (decide (y<0)) a2 n2 c2] X fun e b=>VRes (ofZ (x-y)) X b e:=by
 have:=lJ (.inr (.inl ⟨rfl,rfl⟩)) (.inr (.inl ⟨rfl,rfl⟩)) X (decide (x<0)) (decide (y<0)) a1 a2 _ _ n1 n2 c1 c2 h1.lay h2.lay (aB _) (aB _) h1.len h2.len h1.b63 h2.b63;rw[aZ,aZ]at this;exact this.mono fun e b h=>VRes.of (oV h h1.may h2.may)
theorem Fz:Calls prog 100 #[Ω (decide (x<0)) a1 n1 c1,Ω (decide (y<0)) a2 n2 c2] X fun e b=>VRes (ofZ (x*y)) X b e:=by
 have:=lJ (.inr (.inr ⟨rfl,rfl⟩)) (.inr (.inr ⟨rfl,rfl⟩)) X (decide (x<0)) (decide (y<0)) a1 a2 _ _ n1 n2 c1 c2 h1.lay h2.lay (aB _) (aB _) h1.len h2.len h1.b63 h2.b63;rw[aZ,aZ]at this;exact this.mono fun e b h=>VRes.of (oV h h1.may h2.may)
theorem FC:Calls prog 113 #[Ω (decide (x<0)) a1 n1 c1,Ω (decide (y<0)) a2 n2 c2] X fun e b=>VRes (ofZ (Nat.gcd x.natAbs y.natAbs:Nat)) X b e:=by
 have:=E6 X (decide (x<0)) (decide (y<0)) a1 a2 _ _ n1 n2 c1 c2 h1.lay h2.lay (aB _) (aB _) h1.len h2.len h1.b63 h2.b63 (by rw[h1.may,h2.may];rfl);rw[aE,aE]at this;exact this.mono fun e b h=>VRes.of h
theorem vM(k:Nat)(f:k=1∨k=2∨k=3):Calls prog 189 #[I k,Ω (decide (x<0)) a1 n1 c1,Ω (decide (y<0)) a2 n2 c2] X fun e b=>VRes (ofZ (kK k (max n1 n2+1) x y)) X b e:=by
 obtain⟨g,d⟩: ∃g,Joins k k g:=by
  rcases f with rfl|rfl|rfl
  ·exact⟨_,.inl ⟨rfl,rfl,rfl⟩⟩
  ·exact⟨_,.inr (.inl ⟨rfl,rfl,rfl⟩)⟩
  ·exact⟨_,.inr (.inr ⟨rfl,rfl,rfl⟩)⟩
 exact(BX X k _ _ a1 a2 _ _ n1 n2 c1 c2 h1.lay h2.lay (aB _) (aB _) h1.len h2.len h1.b63 h2.b63 (by rw[h1.may,h2.may];rfl) k g d x y (aZ _).symm (aZ _).symm _ rfl).mono fun e b h=>VRes.of h
end
theorem qN{x n:Int}(h0:x≠0)(k:32768<n):1024<(rep (cf x n).natAbs).length:=by
 obtain⟨c,f⟩:=ξ 1024;obtain⟨m,i⟩:=ξ n.toNat;have d:32*c<=m:=ω
 unfold cf;rw[if_pos ω,<-i,<-f];refine Classical.byContradiction fun h=>?_
 have h1:=rep_length_le.1 (Nat.le_of_not_lt h);rw[Int.natAbs_mul,Int.natAbs_pow,dj]at h1;have h2:1*2^m<=x.natAbs*(2:Int).natAbs^m:=Nat.mul_le_mul ω ι;have j:2^(32*c)<=2^m:=Nat.pow_le_pow_right δ d;omega
section
variable {X:World} {x n:Int} {a:Option Addr} {m c:Nat} (h1:In X x a m) (hn1: -9223372036854775808<=n) (hn2:n<=9223372036854775807)
include h1 hn1 hn2
theorem Dx:Calls prog 112 #[Ω (decide (x<0)) a m c,I n] X fun e b=>VRes (ofZ (cf x n)) X b e:=
 (vc X _ a _ m c n x h1.lay (aB _) h1.len h1.may (aZ x).symm hn1 hn2).mono fun e b d=>by
  rcases d with k|⟨h0,hl,k⟩
  ·exact .of k
  ·rw[jd (qN h0 hl)];exact .no δ k
theorem Cc(f:n<0):Calls prog 31 #[Ω (decide (x<0)) a m c,I n] X fun e b=>VRes none X b e:=
 (my X _ a _ m c n x h1.lay (aB _) h1.len h1.may (aZ x).symm hn2).mono fun e b d=>by
  rcases d with⟨-,k⟩|⟨k,-⟩
  ·exact .no δ k
  ·omega
theorem Fx(f:0<=n):Calls prog 31 #[Ω (decide (x<0)) a m c,I n] X fun e b=>VRes (ofZ (x^n.toNat)) X b e:=
 (my X _ a _ m c n x h1.lay (aB _) h1.len h1.may (aZ x).symm hn2).mono fun e b d=>by
  rcases d with⟨k,-⟩|⟨-,k|⟨hl,k⟩⟩
  ·omega
  ·exact .of k
  ·rw[jd hl];exact .no δ k
end
def Bh(r s:Option Int)(X d:World)(e:Ending):Prop:= ∃b a n c f g i j k,e=Rt #[Ω b a n c,Ω f g i j,I k]/\Hid (Val r X d b a n c k/\Val s X d f g i j k)/\Below X X d
def opD(fl:Bool)(y z:Int):Option Int:=if y=0 then none else ofZ z
theorem vn{fl:Bool}{x y:Int}{X j:World}{e:Ending}(v:(rep x.natAbs).length<=1024)(z:(rep y.natAbs).length<=1024)(h:DivAnswer true fl X j e x y):Bh (opD fl y (fb fl x y)) (opD fl y (fE fl x y)) X j e:=by
 unfold DivAnswer at h;rw[if_neg δ]at h;unfold opD;by_cases d:y=0
 ·rw[if_pos d]at h ⊢;rw[if_pos d];exact⟨_,_,_,_,_,_,_,_,_,h.2,hid ⟨(show(90:Int)≠0 by decide),(show(90:Int)≠0 by decide)⟩,h.1⟩
 ·rw[if_neg d]at h ⊢;rw[if_neg d];obtain⟨k,B,C,D,E,o,p,q,r,u⟩:=h;have f:(rep (fb fl x y).natAbs).length<=1024:=Nat.le_trans (aS (nD fl x d)) v;have i:(rep (fE fl x y).natAbs).length<=1024:=Nat.le_trans (aS (Nat.le_of_lt (o6 fl x d))) z;unfold ofZ;rw[if_pos f,if_pos i];exact⟨_,_,_,_,_,_,_,_,_,o,hid ⟨⟨rfl,rfl,p,⟨rfl,f,r⟩⟩,⟨rfl,rfl,q,⟨rfl,i,u⟩⟩⟩,k⟩
section
variable {X:World} {x y:Int} {a1 a2:Option Addr} {n1 n2 c1 c2:Nat} (h1:In X x a1 n1) (h2:In X y a2 n2)
include h1 h2
theorem Ew:Calls prog 103 #[Ω (decide (x<0)) a1 n1 c1,Ω (decide (y<0)) a2 n2 c2] X fun e b=>Bh (opD false y (fb false x y)) (opD false y (fE false x y)) X b e:=by
 have:=km (.inl ⟨rfl,rfl⟩) X (decide (x<0)) (decide (y<0)) a1 a2 _ _ n1 n2 c1 c2 h1.lay h2.lay (aB _) (aB _) h1.len h2.len h1.b63 h2.b63;rw[aZ,aZ,h1.may,h2.may]at this;exact this.mono fun e b h=>vn (by rw[<-h1.len];exact h1.le) (by rw[<-h2.len];exact h2.le) h
theorem EB:Calls prog 34 #[Ω (decide (x<0)) a1 n1 c1,Ω (decide (y<0)) a2 n2 c2] X fun e b=>Bh (opD true y (fb true x y)) (opD true y (fE true x y)) X b e:=by
 have:=km (.inr ⟨rfl,rfl⟩) X (decide (x<0)) (decide (y<0)) a1 a2 _ _ n1 n2 c1 c2 h1.lay h2.lay (aB _) (aB _) h1.len h2.len h1.b63 h2.b63;rw[aZ,aZ,h1.may,h2.may]at this;exact this.mono fun e b h=>vn (by rw[<-h1.len];exact h1.le) (by rw[<-h2.len];exact h2.le) h
end
end Go.Proofs.YtfefijlnbhbplaaGreatDoor

/- Walks and laws that LargeData asks for. -/
import Derived.Test.YtfefijlnbhbplaaGreatDoorGX01
import Derived.Test.YtfefijlnbhbplaaGreatDoorGX02
import Derived.Test.YtfefijlnbhbplaaGreatDoorShelf
import Derived.StillTail
set_option linter.unusedVariables false
set_option linter.unusedSimpArgs false
set_option maxRecDepth 1000000
set_option maxHeartbeats 6400000
namespace Go.Proofs.YtfefijlnbhbplaaGreatDoor.Limb
theorem nX(a:List Nat)(j:Nat)(h:j<a.length):val (a.drop j)=wd a j+4294967296*val (a.drop (j+1)):=by
 rw[List.drop_eq_getElem_cons h,<-wd_lt h,val]
structure Div (us0 us qs:List Nat) (V n k:Nat):Prop where
 len:us.length=us0.length
 lim:Lim us
 qlim:Lim qs
 qlen:qs.length+n=us0.length
 kle:k<=qs.length
 low:us.take k=us0.take k
 rest:val (us.drop k)<V
 eq:val (us0.drop k)=V*val (qs.drop k)+val (us.drop k)
theorem Div.seg_eq{us0 a qs:List Nat}{V n j:Nat}(D:Div us0 a qs V n (j+1))(c:V<W n)(g:0<n):seg a j (n+1)=wd a j+4294967296*val (a.drop (j+1))/\val (a.drop (j+n+1))=0:=by
 have d:=D.len;have e:=D.kle;have f:=D.qlen
 have h1:val (a.drop (j+n+1))=0:=by
  rw[show j+n+1=(j+1)+n from ω,<-List.drop_drop,ll (D.lim.drop _)];exact Nat.div_eq_of_lt (Nat.lt_trans D.rest c)
 refine⟨?_,h1⟩;have b:=bJ (a.drop j) (n+1) (by rw[List.length_drop];omega);rw[List.drop_drop,show j+(n+1)=j+n+1 from ω,h1,Nat.mul_zero,Nat.add_zero]at b;unfold seg;rw[<-b,nX a j ω]
theorem Div.seg_lt'{us0 a qs:List Nat}{V n j:Nat}(D:Div us0 a qs V n (j+1))(b:V<W n)(c:0<n):seg a j (n+1)<V*4294967296:=by
 rw[(D.seg_eq b c).1];have h1:=D.rest;have d:=D.lim.wd j;have:=Nat.mul_le_mul_left 4294967296 (show val (a.drop (j+1))+1<=V from h1);rw[Nat.mul_comm V];omega
theorem Div.step{us0 a b qs:List Nat}{V n j:Nat}(D:Div us0 a qs V n (j+1))(v:V<W n)(x:0<n)(C:b.length=a.length)(g:Lim b)(l:b.take j=a.take j)(m:b.drop (j+n+1)=a.drop (j+n+1))(hs:seg b j (n+1)=seg a j (n+1)%V):Div us0 b (qs.set j (seg a j (n+1)/V)) V n j:=by
 have e:=D.len;have E:=D.kle;have y:=D.qlen;have c:0<V:=Nat.lt_of_le_of_lt (Nat.zero_le _) D.rest;obtain⟨h1,B⟩:=D.seg_eq v x;have i:=D.seg_lt' v x;have f:seg a j (n+1)/V<4294967296:=by rw[Nat.div_lt_iff_lt_mul c,Nat.mul_comm];exact i
 have s:val (b.drop j)=seg a j (n+1)%V:=by
  have t:=bJ (b.drop j) (n+1) (by rw[List.length_drop];omega);rw[List.drop_drop,show j+(n+1)=j+n+1 from ω,m,B,Nat.mul_zero,Nat.add_zero]at t;rw[t];exact hs
 refine⟨by rw[C,e],g,D.qlim.set f,by rw[List.length_set];exact y,by rw[List.length_set];omega,?_,by rw[s];exact Nat.mod_lt _ c,?_⟩
 ·rw[l];have:=congrArg (List.take j) D.low
  rwa [List.take_take,List.take_take,Nat.min_eq_left ω]at this
 ·have z:wd us0 j=wd a j:=by
   have u:wd (a.take (j+1)) j=wd (us0.take (j+1)) j:=(by rw[D.low]);rw[wd_take ω,wd_take ω]at u;exact u.symm
  have k:val ((qs.set j (seg a j (n+1)/V)).drop j)=seg a j (n+1)/V+4294967296*val (qs.drop (j+1)):=by
   rw[nX _ _ (by rw[List.length_set];omega),cm ω,if_pos rfl,List.drop_set_of_lt ω]
  rw[nX us0 j ω,D.eq,k,s,z];have A:=Nat.div_add_mod (seg a j (n+1)) V;rw[h1]at A ⊢;generalize(wd a j+4294967296*val (a.drop (j+1)))/V=q at*
  generalize(wd a j+4294967296*val (a.drop (j+1)))%V=r at*
  rw[Nat.mul_add,Nat.mul_add,Nat.mul_left_comm V 4294967296];omega
theorem Div.done{us0 c qs:List Nat}{V n:Nat}(D:Div us0 c qs V n 0):val qs=val us0/V/\val c=val us0%V:=by
 have h:=D.eq;have b:=D.rest;simp only[List.drop_zero]at h b;have a:0<V:=Nat.lt_of_le_of_lt (Nat.zero_le _) b;rw[h,Nat.mul_add_div a,Nat.div_eq_of_lt b,Nat.mul_add_mod,Nat.mod_eq_of_lt b];exact⟨ω,rfl⟩
theorem C3{ys:List Nat}{k:Nat}(m:Lim ys)(y:fN ys)(z:ys.length=k+1):(rep (val ys*2^(32-Lib.bitLen (wd ys k)))).length=k+1/\2147483648<=wd (rep (val ys*2^(32-Lib.bitLen (wd ys k)))) k/\Lib.bitLen (wd ys k)<=32/\1<=Lib.bitLen (wd ys k):=by
 have a:=mj y z;obtain⟨s,u,v,x⟩:=nO (m.wd k);have o:=x a;have p:=u a;have e:=dm (l:=ys) (k:=k) ω;rw[List.take_of_length_le ω]at e;have h1:=cC (m.take k);rw[List.length_take,Nat.min_eq_left ω]at h1;generalize Lib.bitLen (wd ys k)=b at*
 have d:2^(b-1)*2^(32-b)=2147483648:=by rw[<-Nat.pow_add,show b-1+(32-b)=31 from by omega]
 have f:2^b*2^(32-b)=4294967296:=by rw[<-Nat.pow_add,show b+(32-b)=32 from by omega]
 have q:2147483648*W k<=val ys*2^(32-b):=by
  have:=Nat.mul_le_mul_right (2^(32-b)) (show W k*2^(b-1)<=val ys by rw[e];exact Nat.le_trans (Nat.mul_le_mul_left _ p) (Nat.le_add_left _ _));rw[Nat.mul_assoc,d,Nat.mul_comm]at this;exact this
 have i:val ys*2^(32-b)<W (k+1):=by
  have r:val ys<W k*2^b:=by
   have:=Nat.mul_le_mul_left (W k) (show wd ys k+1<=2^b from s);rw[Nat.mul_add]at this;omega
  have:=Nat.mul_lt_mul_of_pos_right r (Nat.pow_pos (n:=32-b) (show 0<2 by decide));rw[Nat.mul_assoc,f,Nat.mul_comm (W k)]at this;rw[bP];exact this
 have j:=gH k;have c:(rep (val ys*2^(32-b))).length=k+1:=Nat.le_antisymm (rep_length_le.2 i) (rep_length_lt.2 ω);refine⟨c,?_,v,o⟩;rw[sE,Nat.mod_eq_of_lt]
 ·rw[Nat.le_div_iff_mul_le j];exact q
 ·rw[Nat.div_lt_iff_lt_mul j,<-bP];exact i
theorem vm{xs:List Nat}{L s:Nat}(f:Lim xs)(q:fN xs)(r:xs.length=L)(u:0<L)(hs:s<=32):L<=(rep (val xs*2^s)).length/\(rep (val xs*2^s)).length<=L+1/\∀l:List Nat,l=(rep (val xs*2^s)++[0,0]).take (L+1)->l.length=L+1/\Lim l/\val l=val xs*2^s:=by
 have h1:=cC f;have i:0<2^s:=Nat.pow_pos δ;have j:W (L-1)<=val xs:=by rw[<-rep_length_lt,fM f q];omega
 have m:L<=(rep (val xs*2^s)).length:=by
  have:=rep_length_lt.2 (Nat.le_trans j (Nat.le_mul_of_pos_right (val xs) i));omega
 have d:(rep (val xs*2^s)).length<=L+1:=by
  rw[rep_length_le,bP];have o:2^s<=4294967296:=Nat.pow_le_pow_right (n:=2) δ hs;have:=Nat.mul_le_mul_left (val xs) o;rw[r]at h1;omega
 refine⟨m,d,fun l c=>?_⟩;have b:Lim (rep (val xs*2^s)++[0,0]):=Lim.append (aB _) (Lim.cons δ (Lim.cons δ Lim.nil));have p:val (rep (val xs*2^s)++[0,0])=val xs*2^s:=by rw[eW,aE];simp[val]
 subst c;refine⟨by rw[List.length_take,List.length_append];simp;omega,b.take _,?_⟩;rw[fZ b,p,Nat.mod_eq_of_lt (rep_length_le.1 d)]
theorem Div.start{xs ys us0:List Nat}{L k s:Nat}(i:Lim xs)(j:Lim ys)(l:fN ys)(b:xs.length=L)(m:ys.length=k+1)(n:k+1<=L)(q:us0.length=L+1)(a:Lim us0)(c:val us0=val xs*2^s):Div us0 us0 (List.replicate (L-k) 0) (val ys*2^s) (k+1) (L-k):=by
 have h0:val ((List.replicate (L-k) 0).drop (L-k))=0:=by rw[List.drop_of_length_le (by simp)];rfl
 have e:0<2^s:=Nat.pow_pos δ;refine⟨rfl,a,Lim.replicate _ δ,by simp;omega,by simp,rfl,?_,by rw[h0];omega⟩;rw[ll a,c,Nat.div_lt_iff_lt_mul (gH _)];have h1:=cC i;rw[b]at h1;have f:W k<=val ys:=by rw[<-rep_length_lt,fM j l];omega
 have g:W L=W k*W (L-k):=by rw[<-oA];congr 1;omega
 rw[Nat.mul_right_comm];refine Nat.mul_lt_mul_of_pos_right (Nat.lt_of_lt_of_le h1 ?_) e;rw[g];exact Nat.mul_le_mul_right _ f
end Go.Proofs.YtfefijlnbhbplaaGreatDoor.Limb
namespace Go.Proofs.YtfefijlnbhbplaaGreatDoor
open Go Lib Go.RowKit Limb Tryz
theorem xk(w:World)(x y:Int)(p q:Nat)(e:TypeId)(b:x=p)(d:y=q):Lay .u32 (w.alloc (.cells #[Ψ x,Ψ y] e)) (some ⟨w,0,none⟩) [p,q]:=by
 refine⟨w,0,fun _=>⟨rfl,by rw[World.size_alloc];omega⟩,fun i a=>?_⟩;rw[World.cell?_alloc_at _ _ _ _ rfl];subst b d
 match i,a with
 |0,_=>rfl
 |1,_=>rfl
theorem lj(w:World)(n:Nat)(f:n<18446744073709551616):Calls prog 230 #[.int .u64 n] w fun e w'=>lW w w' e n:=by
 have b:Lim [n%4294967296,n/4294967296]:=Lim.cons ω (Lim.cons ω Lim.nil);have d:val [n%4294967296,n/4294967296]=n:=by simp only[val];omega
 have H:=hid d;clear d;go_enter func230,ntmps230;go_wp2_with(go_at_call 224;refine(dA _ _ [n%4294967296,n/4294967296] _ _ (xk _ _ _ _ _ _ (by simp) (by simp)) b (by simp) (by simp) (by simp)).mono ?_;rintro e w' ⟨rfl,rfl⟩);go_ret;rw[H.out];refine⟨_,_,rfl,?_,δ,?_,(Below.refl _ _).alloc ι _⟩
 ·have:=aQ b;rw[H.out]at this;simpa using this
 ·have:=(xk w (n%4294967296:Nat) (n/4294967296:Nat) _ _ 25 rfl rfl).norm b;rw[H.out]at this;simpa using this
theorem lg(w:World)(a:Option Addr)(l:List Nat)(n cap:Nat)(k:Lay .u32 w a l)(g:Lim l)(m:n=l.length)(D:n<=9223372036854775807):Calls prog 162 #[.slice a n cap] w fun e w'=>e= .returned (.int .u64 (val l%18446744073709551616:Nat))/\w=w':=by
 obtain⟨b,y,f,d,o⟩:=k.use 192 25 underlying192 aK cap;have h0:=g.wd 0;have h1:=g.wd 1;rw[<-m]at f d
 have e:val l%18446744073709551616=wd l 0+wd l 1*4294967296:=by
  have:=fZ g 2;rw[(φ:W 2=18446744073709551616)]at this;rw[<-this,aN,aN];simp[val,eS,FB,Nat.mul_comm]
 rw[e];by_cases c1:n=0
 ·have p:=eR (l:=l) (i:=0) ω;have j:=eR (l:=l) (i:=1) ω;rw[p,j];clear f d p j e h0 h1 m o;subst c1;go_enter func162,ntmps162;go_wp2;go_ret;exact⟨rfl,rfl⟩
 ·have r:=f w .i64 0 ω ω;have u:=d w (Below.refl _ _) 0 ω;by_cases q:n=1
  ·have j:=eR (l:=l) (i:=1) ω;rw[j];clear f d j e h1 m o c1;subst q;simp only[Nat.zero_mul,Nat.add_zero,Int.toNat_zero]at*
   go_enter func162,ntmps162;go_wp2;go_ret;exact⟨rfl,rfl⟩
  ·have v:=f w .i64 1 ω ω;have z:=d w (Below.refl _ _) 1 ω;have A:=nW (wd l 0) (wd l 1) h0 h1;clear f d e m o;simp only[Nat.add_zero,Int.toNat_zero,Int.toNat_one]at r v u;have B:0<n:=ω
   have C:(1:Int)<n:=ω;clear c1 q;go_enter func162,ntmps162;go_wp2;go_ret;exact⟨congrArg (fun x=>Ending.returned (.int .u64 x)) ω,rfl⟩
theorem mb(w:World)(a:Option Addr)(l:List Nat)(n cap:Nat)(j:Lay .u32 w a l)(m:n=l.length)(r:n<=1099511627776):Calls prog 225 #[.slice a n cap] w fun e w'=> ∃k b,e= .returned (.slice k n b)/\n<=b/\Lay .u32 w' k l/\Below w w w':=by
 go_enter func225,ntmps225;go_wp2_with(at_builtin;refine ld rfl _ _ 192 rfl .u32 w 25 (Ψ 0) 4 underlying192 bz rfl _ 0 [] rfl (World.ownsRow_nil _ _ _ _) a n cap rfl l j m ω ω ω ?_;intro q w1 f g);obtain⟨k,b,rfl,o,p,d,_⟩:=dG (K:= .u32) (zs:=l) (by simpa using f);go_ret;exact⟨k,b,by simp,ω,d,g⟩
def cX(x y:Nat):Int:=if x<y then -1 else if x=y then 0 else 1
theorem kB{xs ys:List Nat}(a:Lim xs)(b:Lim ys)(c:fN ys)(h:xs.length<ys.length):cX (val xs) (val ys)= -1:=by
 have h1:=cC a;have d:W xs.length<=val ys:=by rw[<-rep_length_lt,fM b c];exact h
 unfold cX;rw[if_pos ω]
theorem oM{xs ys:List Nat}(a:Lim xs)(b:Lim ys)(c:fN xs)(h:ys.length<xs.length):cX (val xs) (val ys)=1:=by
 have h1:=cC b;have d:W ys.length<=val xs:=by rw[<-rep_length_lt,fM a c];exact h
 unfold cX;rw[if_neg ω,if_neg ω]
theorem CK{xs ys:List Nat}(g:Lim xs)(i:Lim ys)(j:xs.length=ys.length){k:Nat}(b:k<xs.length)(c:xs.drop (k+1)=ys.drop (k+1)):(wd xs k<wd ys k->cX (val xs) (val ys)= -1)/\(wd ys k<wd xs k->cX (val xs) (val ys)=1)/\(wd xs k=wd ys k->xs.drop k=ys.drop k):=by
 have a:=bJ xs (k+1) ω;have d:=bJ ys (k+1) ω;rw[dm ω]at a d;have e:=cC (g.take k);have f:=cC (i.take k);rw[List.length_take,Nat.min_eq_left ω]at e f;rw[c]at a;refine⟨fun h=>?_,fun h=>?_,fun h=>?_⟩
 ·have:=Nat.mul_le_mul_left (W k) (show wd xs k+1<=wd ys k from h);rw[Nat.mul_add]at this;unfold cX;rw[if_pos ω]
 ·have:=Nat.mul_le_mul_left (W k) (show wd ys k+1<=wd xs k from h);rw[Nat.mul_add]at this;unfold cX;rw[if_neg ω,if_neg ω]
 ·rw[List.drop_eq_getElem_cons b,List.drop_eq_getElem_cons (ω:k<ys.length),c,<-wd_lt b,<-wd_lt (ω:k<ys.length),h]
theorem df(w:World)(a b:Option Addr)(xs ys:List Nat)(n m ca cb:Nat)(U:Lay .u32 w a xs)(V:Lay .u32 w b ys)(z:Lim xs)(A:Lim ys)(X:fN xs)(Y:fN ys)(v:n=xs.length)(x:m=ys.length)(ln:n<=9223372036854775807)(lm:m<=9223372036854775807):Calls prog 228 #[.slice a n ca,.slice b m cb] w fun e w'=>e= .returned (I (cX (val xs) (val ys)))/\∃q,w'=w.drewN q:=by
 rcases Nat.lt_trichotomy n m with h|h|h
 ·rw[kB z A Y ω];clear v x;have y:((n:Int) != (m:Int))=true:=by rw[bne_iff_ne];omega
  go_enter func228,ntmps228;go_wp2;go_ret;exact⟨rfl,0,rfl⟩
 ·obtain⟨b1,L,f,g,_⟩:=U.use 192 25 underlying192 aK ca;obtain⟨b2,M,p,r,_⟩:=V.use 192 25 underlying192 aK cb;subst h;rw[<-v]at f g;rw[<-x]at p r;have B:=hid v;clear v;have F:=hid x;clear x;have P:=hid f;clear f;have Q:=hid p;clear p;have C:=hid g;clear g;have D:=hid r;clear r;go_enter func228,ntmps228;go_wp2;go_loopw[5] (fun i T=> ∃(k:Nat),k<=n/\i= .int .i64 ((k:Int)-1)/\xs.drop k=ys.drop k/\∃q,T=w.drewN q) (fun i _=>((intOf i)+1).toNat);case atStart=>exact⟨n,Nat.le_refl _,rfl,by rw[List.drop_of_length_le (by rw[B.out];exact Nat.le_refl _),List.drop_of_length_le (by rw[F.out];exact Nat.le_refl _)],0,rfl⟩
  case round=>
   obtain⟨k,hk,rfl,O,q,rfl⟩:=hrel;have G:=hid O;clear O;by_cases h0:k=0
   ·have d:Hid (xs=ys):=(by have:=G.out;rw[h0]at this;unfold Hid;simpa using this);subst h0;go_wp2;go_ret;exact⟨by rw[d.out];simp[cX],q,rfl⟩
   ·obtain⟨j,rfl⟩: ∃j,k=j+1:=⟨k-1,ω⟩;have H:((j+1:Nat):Int)-1=(j:Int):=ω
    rw[H];clear H h0;have R:=fun q=>P.out (w.drewN q) .i64 j ω ω
    have S:=fun q=>Q.out (w.drewN q) .i64 j ω ω
    simp only[Int.toNat_natCast]at R S;have Z:=C.out w (Below.refl _ _) j ω;have cy:=D.out w (Below.refl _ _) j ω;have u:=CK z A (by rw[<-B.out,<-F.out]) (k:=j) (by rw[<-B.out];omega) G.out;have h1:=z.wd j;have h2:=A.wd j;have E:=hid u;clear u;rcases Nat.lt_trichotomy (wd xs j) (wd ys j)with h|h|h
    ·have y:(((wd xs j:Nat):Int) != ((wd ys j:Nat):Int))=true:=(by rw[bne_iff_ne];omega);have d:=hid (E.out.1 h);go_wp2;go_quiet (fail);go_wp2;go_quiet (fail);go_wp2;go_ret;rw[d.out];exact⟨rfl,by first |exact⟨_,rfl⟩|(simp only[World.drewN_drewN];exact⟨_,rfl⟩)⟩
    ·have y:(((wd xs j:Nat):Int) != ((wd ys j:Nat):Int))=false:=(by rw[bne_eq_false_iff_eq];omega);have d:=hid (E.out.2.2 h);clear h;go_wp2;go_quiet (fail);go_wp2;go_roundw;case rel=>exact⟨j,ω,rfl,d.out,by first |exact⟨_,rfl⟩|(simp only[World.drewN_drewN];exact⟨_,rfl⟩)⟩
     case measure=>first |(simp[intOf];done)|(simp[intOf];omega)
    ·have y:(((wd xs j:Nat):Int) != ((wd ys j:Nat):Int))=true:=(by rw[bne_iff_ne];omega);have d:=hid (E.out.2.1 h);go_wp2;go_quiet (fail);go_wp2;go_quiet (fail);go_wp2;go_ret;rw[d.out];exact⟨rfl,by first |exact⟨_,rfl⟩|(simp only[World.drewN_drewN];exact⟨_,rfl⟩)⟩
 ·rw[oM z A X ω];clear v x;have y:((n:Int) != (m:Int))=true:=by rw[bne_iff_ne];omega
  go_enter func228,ntmps228;go_wp2;go_ret;exact⟨rfl,0,rfl⟩
theorem tF{a r z:Nat}(d:r<32)(f:z<2^r):z+a*2^r%4294967296<4294967296/\a*2^r%4294967296%2^r=0:=by
 have e:4294967296=2^r*2^(32-r):=by rw[<-Nat.pow_add,show r+(32-r)=32 from by omega]
 have h1:a*2^r%4294967296=2^r*(a%2^(32-r)):=by rw[e,Nat.mul_comm a,Nat.mul_mod_mul_left]
 rw[h1];have b:a%2^(32-r)<2^(32-r):=Nat.mod_lt _ (Nat.pow_pos δ);have c:=Nat.mul_le_mul_left (2^r) (show a%2^(32-r)+1<=2^(32-r)from b);rw[<-e,Nat.mul_add]at c;exact⟨ω,Nat.mul_mod_right _ _⟩
theorem Dh{a r z:Nat}(c:r<32)(b:z<2^r):bits .or .u32 (z:Int) (((a*2^r:Nat):Int)%4294967296)=((z+a*2^r%4294967296:Nat):Int):=by
 have h:=tF (a:=a) c b;have e:((a*2^r:Nat):Int)%4294967296=((a*2^r%4294967296:Nat):Int):=by rw[Int.natCast_emod];rfl
 rw[e,u32_or_nat _ _ ω ω,Nat.or_comm,nat_join r _ _ h.2 b,Nat.add_comm]
theorem Fh{a r:Nat}(d:a<4294967296)(f:r<32):a*2^r/4294967296<2^r/\a*2^r<9223372036854775808/\2^r<=2147483648:=by
 have h1:2^r<=2^31:=Nat.pow_le_pow_right δ ω;have b:0<2^r:=Nat.pow_pos δ;have c:a*2^r<=4294967295*2^r:=Nat.mul_le_mul_right _ ω;have e:2^31=2147483648:=rfl;exact⟨ω,ω,ω⟩
theorem z8{xs zs:List Nat}{d k r:Nat}(i:d+k+1<zs.length)(h:val (zs.take (d+k+1))=val (xs.take k)*2^r*W d):val (((zs.set (d+k) (wd zs (d+k)+wd xs k*2^r%4294967296)).set (d+k+1) (wd xs k*2^r/4294967296)).take (d+(k+1)+1))=val (xs.take (k+1))*2^r*W d:=by
 rw[show d+(k+1)+1=d+k+1+1 from ω,bK _ (by rw[List.length_set];omega),bK _ ω,aN xs];rw[aN]at h;have b:=Nat.div_add_mod (wd xs k*2^r) 4294967296;generalize wd xs k*2^r/4294967296=q at*
 generalize wd xs k*2^r%4294967296=m at*
 have c:=congrArg (fun t=>W (d+k)*t) b;simp only[Nat.mul_add]at c;have f:W (d+k)*(4294967296*q)=W (d+k+1)*q:=by rw[bP,<-Nat.mul_assoc,Nat.mul_comm (W _) 4294967296]
 have g:(val (xs.take k)+W k*wd xs k)*2^r*W d=val (xs.take k)*2^r*W d+W (d+k)*(wd xs k*2^r):=by
  rw[Nat.add_mul,Nat.add_mul,oA];congr 1;rw[Nat.mul_assoc (W k),Nat.mul_comm (W d),Nat.mul_right_comm]
 rw[Nat.mul_add];omega
theorem p7(w:World)(a:Option Addr)(xs:List Nat)(n ca s:Nat)(ha:Lay .u32 w a xs)(hx:Lim xs)(hn:n=xs.length)(ln:n<=549755813888)(ls:s<=4294967296):Calls prog 232 #[.slice a n ca,.int .u64 s] w fun e w'=>rX w w' e (val xs*2^s) (s/32+n+1):=by
 obtain⟨b1,off1,hix,hcx,_⟩:=ha.use 192 25 underlying192 aK ca;rw[<-hn]at hix hcx;by_cases h0:n=0
 ·have hv:Hid (val xs*2^s=0):=by
   unfold Hid;rw[List.eq_nil_of_length_eq_zero (hn.symm.trans h0)];simp[val]
  have hres:rX w w (.returned (.slice none 0 0)) (val xs*2^s) (s/32+0+1):=(by rw[hv.out];exact⟨none,0,rfl,by simp[eE],Nat.zero_le _,Lay.nil _ _ _,Below.refl _ _⟩);clear hix hcx hn;subst h0;go_enter func232,ntmps232;go_wp2;go_ret;exact hres
 ·have p1:0<n:=ω;have q1:((n:Int)==0)=false:=nE
  have Hn:=hid hn;clear hn;have HX:=hid hix;clear hix;have HCX:=hid hcx;clear hcx;clear h0;obtain⟨d,hd⟩:=ξ (s/32);obtain⟨r,hr⟩:=ξ (s%32);have e1:(s:Int)/32=d:=ω
  have e2:(s:Int)%32=r:=ω;have d_le:d<=134217728:=ω
  have r_lt:r<32:=ω;have Hd:=hid hd;clear hd;have Hr:=hid hr;clear hr;go_enter func232,ntmps232;go_wp2_with(at_make;refine aI rfl _ _ _ rfl 25 (Ψ 0) 4 underlying192 bz rfl _ _ _ _ (d+n+1) (d+n+1) rfl rfl (by simp) (by simp) ω ω ω ?_;intro w1 g hg1 hg2 hrow hbel);go_loopw[27] (fun i wr=> ∃(k:Nat) (zs:List Nat),k<=n/\i= .int .i64 k/\zs.length=d+n+1/\Lim zs/\Row wr g 25 (aC .u32 zs)/\val (zs.take (d+k+1))=val (xs.take k)*2^r*W d/\wd zs (d+k)<2^r/\Below w w wr) (fun i _=>n-(intOf i).toNat);case atStart=>exact⟨0,List.replicate (d+n+1) 0,ω,rfl,by simp,Lim.replicate _ δ,by rw[aG];exact hrow,by simp[val,List.take_replicate,cH],by rw[cF];exact Nat.pow_pos δ,hbel⟩
  case round=>
   obtain⟨k,zs,hk,rfl,hzl,hzlim,hrw,hv,hz,hbl⟩:=hrel;have h1:=hx.wd k;have h2:=hzlim.wd (d+k);have Hzl:=hid hzl;clear hzl;have Hv:=hid hv;clear hv;have Hz:=hid hz;clear hz;by_cases hlt:k<n
   ·have ix:=HX.out wr .i64 k ω ω;rw[Int.toNat_natCast]at ix;have cx:=HCX.out wr hbl k hlt;have hcell:=hrw.cell (i:=d+k) (by rw[Hzl.out];omega);have hfk:=hrw.free (d+k);have hcell2:=hrw.cell (i:=d+k+1) (by rw[Hzl.out];omega);have hfk2:=hrw.free (d+k+1);have et:((wd xs k:Nat):Int)*2^r=((wd xs k*2^r:Nat):Int):=by rw[Int.natCast_mul,Int.natCast_pow];rfl
    have eo:=Dh (a:=wd xs k) r_lt Hz.out;have ht:=Fh h1 r_lt;have hll:=tF (a:=wd xs k) r_lt Hz.out;obtain⟨t,hte⟩:=ξ (wd xs k*2^r);have hcl:=z8 (xs:=xs) (by rw[Hzl.out];omega) Hv.out;rw[<-hte]at et eo ht hll hcl;have HT:=hid hte;clear hte;obtain⟨ht1,ht2,ht3⟩:=ht;obtain⟨hll1,_⟩:=hll;have HC:=hid hcl;clear hcl;go_wp2;go_roundw
    case rel=>exact⟨k+1,(zs.set (d+k) (wd zs (d+k)+t%4294967296)).set (d+k+1) (t/4294967296),ω,by go_num,by rw[List.length_set,List.length_set,Hzl.out],
     (hzlim.set hll1).set ω,(hrw.store _ _ _ (by first |rfl|omega)).store _ _ _ ω,HC.out,by rw[<-Nat.add_assoc,cm (by rw[List.length_set,Hzl.out];omega),if_pos rfl];exact ht1,aw (aw hbl hg1 _) hg1 _⟩
    case measure=>exact μ
   ·obtain rfl:k=n:=ω
    have hl2:=hrw.lay;have hle2:=aQ hzlim
    have hval:Hid (val zs=val xs*2^s):=by
     have h:=Hv.out;rw[List.take_of_length_le (by rw[Hzl.out];omega),List.take_of_length_le (by rw[Hn.out];omega),dj,Nat.mul_assoc,<-Nat.pow_add]at h;have hs:s=r+32*d:=by rw[Hr.out,Hd.out];omega
     unfold Hid;rw[h,hs]
    go_wp2_with(go_at_call 224;refine(dA _ _ zs _ _ (by assumption) (by assumption) (by rw[Hzl.out]) ω ω).mono ?_;rintro e w' ⟨rfl,rfl⟩);go_ret;rw[Hzl.out]at hle2;rw[<-hval.out];exact⟨_,_,rfl,hle2,by rw[<-Hd.out];exact Nat.le_refl _,hl2.norm hzlim,hbl⟩
theorem FT(a b:Nat):((a:Int)+(b:Int)).toNat=a+b:=ω
theorem FV(a b:Nat):((a:Int)+(b:Int)+1).toNat=a+b+1:=ω
theorem wg{xs zs:List Nat}{d r k p v:Nat}(b:Lim xs)(c:k<zs.length)(f:r<=32)(g:p=2^r)(i:v=(wd xs (d+k)+wd xs (d+k+1)*4294967296)/p%4294967296)(h:val (zs.take k)=val xs/(2^r*W d)%W k):val ((zs.set k v).take (k+1))=val xs/(2^r*W d)%W (k+1):=by
 rw[bK _ c,zl,h,i,g,AM b _ _ _ f]
theorem yM{xs zs:List Nat}{d m s r:Nat}(a:Lim xs)(b:d+m=xs.length)(c:zs.length=m)(hs:2^s=2^r*W d)(h:val (zs.take m)=val xs/(2^r*W d)%W m):val zs=val xs/2^s:=by
 rw[List.take_of_length_le ω,Nat.mod_eq_of_lt,<-hs]at h
 ·exact h
 ·have h1:=cC a;rw[<-b,oA]at h1;rw[Nat.div_lt_iff_lt_mul (Nat.mul_pos (Nat.pow_pos δ) (gH d)),<-Nat.mul_assoc,Nat.mul_right_comm,Nat.mul_comm (W m) (W d)];exact Nat.lt_of_lt_of_le h1 (Nat.le_mul_of_pos_right _ (Nat.pow_pos δ))
theorem BK{xs:List Nat}{d r L:Nat}(a:Lim xs)(c:d<xs.length)(f:r<=32)(b:L=0↔val (xs.take d)=0):(L|||wd xs d%2^r)=0↔val xs%(2^r*W d)=0:=by
 have e:wd xs d%2^r=val xs/W d%2^r:=by
  rw[dP a,show 4294967296=2^r*2^(32-r)from by rw[<-Nat.pow_add,show r+(32-r)=32 from by omega],Nat.mod_mul_right_mod]
 rw[Nat.or_eq_zero_iff,b,e,fZ a,Nat.mul_comm,Nat.mod_mul,Nat.add_eq_zero_iff,Nat.mul_eq_zero];have:=gH d;omega
theorem wh{L x r:Nat}(b:L<4294967296)(c:x<4294967296)(g:r<32):bits .or .u32 (L:Int) (bits .and .u32 (x:Int) (((2^r:Nat):Int)-1))=((L|||x%2^r:Nat):Int)/\L|||x%2^r<4294967296:=by
 have h1:2^r<=2^31:=Nat.pow_le_pow_right δ ω;have f:0<2^r:=Nat.pow_pos δ;have e:2^31=2147483648:=rfl;have d:(((2^r:Nat):Int)-1)=((2^r-1:Nat):Int):=ω
 have a:x%2^r<4294967296:=Nat.lt_of_le_of_lt (Nat.mod_le _ _) c;rw[d,u32_and_nat _ _ c ω,Nat.and_two_pow_sub_one_eq_mod,u32_or_nat _ _ b a];exact⟨rfl,Nat.or_lt_two_pow (n:=32) b a⟩
theorem pK(w:World)(a:Option Addr)(xs:List Nat)(n ca s:Nat)(ha:Lay .u32 w a xs)(y:Lim xs)(nx:fN xs)(X:n=xs.length)(hca:n<=ca)(ln:n<=549755813888)(ls:s<=4294967296):Calls prog 234 #[.slice a n ca,.int .u64 s] w fun e w'=> ∃a' D,e=Rt #[.slice a' (rep (val xs/2^s)).length D,.bool (decide (val xs%2^s≠0))]/\(rep (val xs/2^s)).length<=D/\Lay .u32 w' a' (rep (val xs/2^s))/\Below w w w':=by
 obtain⟨b1,off1,z,A,_⟩:=ha.use 192 25 underlying192 aK ca;rw[<-X]at z A;obtain⟨d,hd⟩:=ξ (s/32);obtain⟨r,hr⟩:=ξ (s%32);have e1:(s:Int)/32=d:=ω
 have e2:(s:Int)%32=r:=ω
 have d_le:d<=134217728:=ω
 have I:r<32:=ω
 have hs:2^s=2^r*W d:=by rw[hr,hd];exact ma s
 by_cases h0:n<=d
 ·have hq:decide (n<=d)=true:=by simp;omega
  have v:val xs<2^s:=by
   rw[hs];have h1:=cC y;have h2:=mt (show xs.length<=d by omega);have h3:=Nat.le_mul_of_pos_left (W d) (Nat.pow_pos (n:=r) (show 0<2 by decide));omega
  have Y:decide (val xs%2^s≠0)=decide (0<n):=by
   rw[Nat.mod_eq_of_lt v,Bool.eq_iff_iff,decide_eq_true_eq,decide_eq_true_eq,X]
   have h4:xs.length=0↔val xs=0:=by
    have:=rep_length_zero (n:=val xs);rwa [fM y nx]at this
   omega
  have M:val xs/2^s=0:=Nat.div_eq_of_lt v;have HB:=hid Y;clear Y;have HV:=hid M;clear M;clear X hd hr hs v z A;go_enter func234,ntmps234;go_wp2;go_ret2;rw[HB.out,HV.out];exact⟨none,0,rfl,by simp[eE],Lay.nil _ _ _,Below.refl _ _⟩
 ·have hdn:d<n:=ω;obtain⟨m,hm1,hm2⟩: ∃m,n<=d+m/\d+m<=n:=⟨n-d,ω,ω⟩;obtain⟨b3,off3,E,F,_⟩:=(ha.take d).use 192 25 underlying192 aK ca;rw[List.length_take,Nat.min_eq_left ω]at E F;have HT:=hid E;clear E;have HCT:=hid F;clear F;have Hn:=hid X;clear X;have HX:=hid z;clear z;have HCX:=hid A;clear A;have Hd:=hid hd;clear hd;have Hr:=hid hr;clear hr;have Hs:=hid hs;clear hs;have hd2:d<=ca:=ω
  have hq:decide (n<=d)=false:=(by simp;omega);clear h0;go_enter func234,ntmps234;go_wp2;simp only[e2];go_loop[8,31] (fun L i=> ∃(k LL:Nat),k<=d/\i= .int .i64 k/\L= .int .u32 LL/\LL<4294967296/\(LL=0↔val (xs.take k)=0)) (fun _ i=>d-(intOf i).toNat);case atStart=>exact⟨0,0,ω,rfl,rfl,ω,by simp[val]⟩
  case round=>
   obtain⟨k,L,hk,rfl,rfl,hL,hv⟩:=hrel;have h1:=y.wd k;have Hv:=hid hv;clear hv;by_cases v:k<d
   ·have Z:=HT.out w .i64 k ω ω;rw[Int.toNat_natCast]at Z;have cx:=HCT.out w (Below.refl _ _) k ω;rw[wd_take v]at cx;have eo:=u32_or_nat L (wd xs k) hL h1;go_wp2;go_round;case rel=>exact⟨k+1,L|||wd xs k,ω,by go_num,rfl,Nat.or_lt_two_pow (n:=32) hL h1,by rw[Nat.or_eq_zero_iff,Hv.out,aN,Nat.add_eq_zero_iff,Nat.mul_eq_zero];have:=gH k;omega⟩
    case measure=>exact μ
   ·obtain rfl:k=d:=ω
    clear h1;have h1:=y.wd k;have Z:=HX.out w .i64 k ω ω;rw[Int.toNat_natCast]at Z;have cx:=HCX.out w (Below.refl _ _) k hdn;obtain⟨eo,hL2⟩:=wh hL h1 I;obtain⟨L2,x⟩:=ξ (L|||wd xs k%2^r)
    rw[<-x]at eo hL2;have HL2:=hid x;clear x;have ep:(2:Int)^r=((2^r:Nat):Int):=by rw[Int.natCast_pow];rfl
    have O:2^r<=2147483648:=Nat.pow_le_pow_right (n:=2) δ (show r<=31 by omega);have hp0:0<2^r:=Nat.pow_pos δ;obtain⟨p,G⟩:=ξ (2^r);rw[<-G]at eo ep O hp0;have HP:=hid G;clear G;go_wp2_with(at_make;refine aI rfl _ _ _ rfl 25 (Ψ 0) 4 underlying192 bz rfl _ _ _ _ m m rfl rfl ω ω ω ω ω ?_;intro w1 g hg1 hg2 U V);go_loopw[56] (fun i wr=> ∃(j:Nat) (zs:List Nat),j<=m/\i= .int .i64 j/\zs.length=m/\Lim zs/\Row wr g 25 (aC .u32 zs)/\val (zs.take j)=val xs/(2^r*W k)%W j/\Below w w wr) (fun i _=>m-(intOf i).toNat);case atStart=>exact⟨0,List.replicate m 0,ω,rfl,by simp,Lim.replicate _ δ,by rw[aG];exact U,by simp[val,eS,Nat.mod_one],V⟩
    case round=>
     obtain⟨j,zs,hj,rfl,S,f,B,T,H⟩:=hrel;have q:=hid S;clear S;have P:=hid T;clear T;have hxa:=ha.below H;clear Z cx;by_cases Q:j<m
     ·have g1:=y.wd (k+j);have g2:=y.wd (k+j+1);have hcell:=B.cell (i:=j) (by rw[q.out];omega);have hfk:=B.free j;have eo2:=nW _ _ g1 g2;go_wp2_with(go_at_call 227;refine(ee _ _ xs _ _ _ hxa y Hn.out ω ω).mono ?_;simp only[FT,FV];rintro e w' ⟨rfl,rfl⟩);go_roundw
      case rel=>exact⟨j+1,zs.set j ((wd xs (k+j)+wd xs (k+j+1)*4294967296)/p%4294967296),ω,by go_num,by rw[List.length_set,q.out],
       f.set ω,B.store _ _ _ (by rw[Int.natCast_emod,Int.natCast_ediv,Int.natCast_add,Int.natCast_mul];rfl),wg y (by rw[q.out];exact Q) ω HP.out rfl P.out,aw H hg1 _⟩
      case measure=>exact μ
     ·obtain rfl:j=m:=ω
      have hl2:=B.lay;have C:=aQ f;have R:=hid (yM (m:=j) y (by rw[<-Hn.out];omega) q.out Hs.out P.out);have hlo:=hid (BK (r:=r) y (by rw[<-Hn.out];omega) ω Hv.out);go_wp2_with(go_at_call 224;refine(dA _ _ zs _ _ (by assumption) (by assumption) (by rw[q.out]) ω ω).mono ?_;rintro e w' ⟨rfl,rfl⟩);go_ret2;rw[q.out]at C;rw[<-R.out,Hs.out];refine⟨_,_,congrArg Ending.returned (congrArg Value.tuple ?_),C,hl2.norm f,H⟩
      have Y:(decide (val xs%(2^r*W k)≠0))=((L2:Int) != 0):=by
       rw[Bool.eq_iff_iff];have:=hlo.out;rw[<-HL2.out]at this;simp only[decide_eq_true_eq,bne_iff_ne,ne_eq];omega
      rw[Y];rfl
theorem oU(w:World)(a:Option Addr)(l:List Nat)(n cap:Nat)(r:Lay .u32 w a l)(g:Lim l)(j:fN l)(p:n=l.length)(E:n<=1099511627776):Calls prog 157 #[.slice a n cap] w fun e w'=>e= .returned (I (dN (val l):Nat))/\w=w':=by
 obtain⟨b,A,f,d,D⟩:=r.use 192 25 underlying192 aK cap;rw[<-p]at f d;by_cases h:n=0
 ·have t:dN (val l)=0:=(by rw[List.eq_nil_of_length_eq_zero (p.symm.trans h)];rfl);have v:=hid t;clear t;clear f d p;subst h;go_enter func157,ntmps157;go_wp2;go_ret;rw[v.out];exact⟨rfl,rfl⟩
 ·obtain⟨k,rfl⟩: ∃k,n=k+1:=⟨n-1,ω⟩;have y:=f w .i64 k ω ω;have B:=d w (Below.refl _ _) k ω;have z:=g.wd k;rw[Int.toNat_natCast]at y;have q:=mj j p.symm;have t:=hid (yZ g p.symm q);obtain⟨_,_,u,_⟩:=nO z;clear f d p q h;have C:(((k+1:Nat):Int)==0)=false:=nE
  go_enter func157,ntmps157;go_wp2_with(go_at_call 226;refine(bits_Len32 _ _ ω ω).mono ?_;rw[Int.toNat_natCast];rintro e w' ⟨rfl,hw'⟩;subst hw');go_ret;rw[t.out];exact⟨congrArg (fun x=>Ending.returned (I x)) ω,rfl⟩
theorem oJ{xs qs:List Nat}{k d r:Nat}(f:0<d)(b:k+1<=xs.length)(c:qs.length=xs.length)(h:val (xs.drop (k+1))=d*val (qs.drop (k+1))+r):val (xs.drop k)=d*val ((qs.set k ((r*4294967296+wd xs k)/d)).drop k)+(r*4294967296+wd xs k)%d:=by
 have a:(qs.set k ((r*4294967296+wd xs k)/d)).drop k=(r*4294967296+wd xs k)/d :: qs.drop (k+1):=by
  rw[List.drop_eq_getElem_cons (by rw[List.length_set];omega),List.getElem_set_self,List.drop_set_of_lt ω]
 rw[a,List.drop_eq_getElem_cons (ω:k<xs.length),<-wd_lt ω,val,val,h];have e:=Nat.div_add_mod (r*4294967296+wd xs k) d;generalize(r*4294967296+wd xs k)/d=q at*
 generalize(r*4294967296+wd xs k)%d=m at*
 rw[Nat.mul_add,Nat.mul_left_comm,Nat.mul_add];omega
theorem jN(w:World)(a:Option Addr)(xs:List Nat)(n ca d:Nat)(ha:Lay .u32 w a xs)(hx:Lim xs)(hn:n=xs.length)(ln:n<=1099511627776)(hd0:0<d)(hd:d<4294967296):Calls prog 229 #[.slice a n ca,Ψ d] w fun e w'=> ∃a' cap',e=Rt #[.slice a' (rep (val xs/d)).length cap',Ψ (val xs%d:Nat)]/\(rep (val xs/d)).length<=cap'/\cap'<=4398046511104/\Lay .u32 w' a' (rep (val xs/d))/\Below w w w'/\∃g cs,a'=some ⟨g,0,none⟩/\Row w' g 25 cs:=by
 obtain⟨b1,off1,hix,hcx,_⟩:=ha.use 192 25 underlying192 aK ca;rw[<-hn]at hix hcx;have Hn:=hid hn;clear hn;have HX:=hid hix;clear hix;have HCX:=hid hcx;clear hcx;go_enter func229,ntmps229;go_wp2_with(at_make;refine aI rfl _ _ _ rfl 25 (Ψ 0) 4 underlying192 bz rfl _ _ _ _ n n rfl rfl rfl rfl ω ω ω ?_;intro w1 g hg1 hg2 hrow hbel);go_loopw[7,8] (fun r i wr=> ∃(k rr:Nat) (qs:List Nat),k<=n/\i= .int .i64 ((k:Int)-1)/\r= .int .u64 rr/\rr<d/\qs.length=n/\Lim qs/\Row wr g 25 (aC .u32 qs)/\val (xs.drop k)=d*val (qs.drop k)+rr/\Below w w wr) (fun _ i _=>(intOf i+1).toNat);case atStart=>exact⟨n,0,List.replicate n 0,ω,rfl,rfl,hd0,by simp,Lim.replicate _ δ,by rw[aG];exact hrow,by rw[List.drop_of_length_le (by rw[Hn.out];exact Nat.le_refl _),List.drop_of_length_le (by simp)];rfl,hbel⟩
 case round=>
  obtain⟨k,r,qs,hk,rfl,rfl,hr,hql,hqlim,hrw,hv,hbl⟩:=hrel;have Hql:=hid hql;clear hql;have Hv:=hid hv;clear hv;by_cases h0:k=0
  ·subst h0;have hl2:=hrw.lay;have hle2:=aQ hqlim;have h3:=Hv.out;simp only[List.drop_zero]at h3;have hq:=hid (show val qs=val xs/d by rw[h3,Nat.mul_add_div hd0,Nat.div_eq_of_lt hr,Nat.add_zero]);have hm:=hid (show r=val xs%d by rw[h3,Nat.mul_add_mod,Nat.mod_eq_of_lt hr]);clear h3;go_wp2_with(go_at_call 224;refine(dA _ _ qs _ _ (by assumption) (by assumption) (by rw[Hql.out]) ω ω).mono ?_;rintro e w' ⟨rfl,rfl⟩);go_ret2;rw[Hql.out]at hle2;rw[<-hq.out,<-hm.out];exact⟨_,_,rfl,hle2,ω,hl2.norm hqlim,hbl,_,_,rfl,hrw⟩
  ·obtain⟨j,rfl⟩: ∃j,k=j+1:=⟨k-1,ω⟩;have hj:((j+1:Nat):Int)-1=(j:Int):=ω
   rw[hj];clear hj h0;have ix:=HX.out wr .i64 j ω ω;rw[Int.toNat_natCast]at ix;have cx:=HCX.out wr hbl j ω;have hcell:=hrw.cell (i:=j) (by rw[Hql.out];omega);have hfk:=hrw.free j;have h1:=hx.wd j;have eo:=oz (wd xs j) r h1 ω;have hst:=hid (oJ hd0 (by rw[<-Hn.out];omega) (by rw[Hql.out,Hn.out]) Hv.out);obtain⟨t,ht⟩:=ξ (r*4294967296+wd xs j);have et:(r:Int)*4294967296+(wd xs j:Nat)=t:=ω
   have htlt:t/d<4294967296:=(by rw[Nat.div_lt_iff_lt_mul hd0];have:=Nat.mul_le_mul_right 4294967296 (show r+1<=d from hr);omega);have htm:t%d<d:=Nat.mod_lt _ hd0;have ht64:t<18446744073709551616:=ω
   rw[et]at eo;rw[<-ht]at hst;have HT:=hid ht;clear ht;have q0:(0:Int)<=(t:Int)/(d:Int):=Int.ediv_nonneg ω ω;have q1:(t:Int)/(d:Int)<4294967296:=by rw[<-Int.natCast_ediv];omega
   have q2:(0:Int)<=(t:Int)%(d:Int):=Int.emod_nonneg _ ω;have q3:(t:Int)%(d:Int)<(d:Int):=by rw[<-Int.natCast_emod];omega
   have hdz:d≠0:=ω;clear et;go_wp2;go_roundw;case rel=>exact⟨j,t%d,qs.set j (t/d),ω,by go_num,by rw[Int.natCast_emod],htm,by rw[List.length_set,Hql.out],hqlim.set htlt,hrw.store _ _ _ (by rw[Int.natCast_ediv]),hst.out,aw hbl hg1 _⟩
   case measure=>first |(simp[intOf];done)|(simp[intOf];omega)
theorem zu(w:World)(a:Option Addr)(xs:List Nat)(n ca d:Nat)(v:Lay .u32 w a xs)(x:Lim xs)(y:n=xs.length)(z:n<=1099511627776)(j:0<d)(A:d<4294967296):Calls prog 229 #[.slice a n ca,Ψ d] w fun e w'=> ∃f b,e=Rt #[.slice f (rep (val xs/d)).length b,Ψ (val xs%d:Nat)]/\(rep (val xs/d)).length<=b/\b<=4398046511104/\Lay .u32 w' f (rep (val xs/d))/\Below w w w':=
 (jN w a xs n ca d v x y z j A).mono fun _ _ ⟨f,k,h1,p,q,r,u,_⟩=>⟨f,k,h1,p,q,r,u⟩
end Go.Proofs.YtfefijlnbhbplaaGreatDoor
namespace Go.Proofs.YtfefijlnbhbplaaGreatDoor.Limb
def ke(f:Nat->Nat):Nat->Nat
 |0=>0
 |k+1=>ke f k+256^k*f k
theorem va{l:List Nat}{i e:Nat}(h:i<l.length):val (l.set i (wd l i+e))=val l+W i*e:=by
 induction l generalizing i with
 |nil=>simp at h
 |cons d t ih=>
  cases i with
  |zero=>simp[wd,val,eS];omega
  |succ i=>
   have a:i<t.length:=(by simpa using h);have b:wd (d :: t) (i+1)=wd t i:=by unfold wd;rw[List.getD_cons_succ]
   rw[b,List.set_cons_succ,val,val,ih a,bP,Nat.mul_add,Nat.mul_assoc];omega
theorem FG(k:Nat):W (k/4)*256^(k%4)=256^k:=by
 rw[show W (k/4)=256^(4*(k/4))from by unfold W;rw[Nat.pow_mul],<-Nat.pow_add,show 4*(k/4)+k%4=k from by omega]
structure Laid (f:Nat->Nat) (xs:List Nat) (m k:Nat):Prop where
 len:xs.length=m
 lim:Lim xs
 eq:val xs=ke f k
 here:wd xs (k/4)<256^(k%4)
 beyond: ∀j,k/4<j->wd xs j=0
theorem Laid.start(f:Nat->Nat)(m:Nat):Laid f (List.replicate m 0) m 0:=
 ⟨by simp,Lim.replicate _ δ,by rw[cH];rfl,by rw[cF];decide,fun j _=>cF _ _⟩
theorem lK{r:Nat}(h:r<4):256^(r+1)<=4294967296:=Nat.pow_le_pow_right (n:=256) δ (show r+1<=4 by omega)
theorem Laid.new_lt{f:Nat->Nat}{xs:List Nat}{m k:Nat}(D:Laid f xs m k)(hf:f k<256):wd xs (k/4)+f k*256^(k%4)<256^(k%4+1):=by
 have h:=D.here;have a:=Nat.mul_le_mul_right (256^(k%4)) (show f k<=255 by omega);rw[Nat.pow_succ];omega
theorem Laid.step{f:Nat->Nat}{xs:List Nat}{m k:Nat}(D:Laid f xs m k)(hf:f k<256)(e:k/4<m):Laid f (xs.set (k/4) (wd xs (k/4)+f k*256^(k%4))) m (k+1):=by
 have a:=D.len;have b:=D.new_lt hf;have c:=lK (r:=k%4) ω;refine⟨by rw[List.length_set];exact a,D.lim.set ω,?_,?_,?_⟩
 ·rw[va ω,D.eq,ke,Nat.mul_comm (f k),<-Nat.mul_assoc,FG]
 ·rw[cm ω];by_cases h:k%4=3
  ·rw[if_neg ω,show(k+1)%4=0 from ω,D.beyond _ ω];decide
  ·rw[if_pos ω,show(k+1)%4=k%4+1 from by omega];exact b
 ·intro j d;rw[cm ω,if_neg ω];exact D.beyond j ω
def byt(l:List Nat)(j:Nat):Nat:=wd l (j/4)/256^(j%4)%256
theorem rL(l:List Nat)(j:Nat):byt l j<256:=Nat.mod_lt _ δ
theorem we{l:List Nat}(o:Lim l)(k:Nat):ke (byt l) (4*k)=val (l.take k):=by
 induction k with
 |zero=>simp[ke,val]
 |succ k ih=>
  rw[show 4*(k+1)=4*k+1+1+1+1 from ω,ke,ke,ke,ke,ih,aN];have q:=o.wd k
  have e: ∀t,t<4->byt l (4*k+t)=wd l k/256^t%256:=by
   intro t ht;unfold byt;rw[show(4*k+t)/4=k from ω,show(4*k+t)%4=t from by omega]
  have p: ∀t,256^(4*k+t)=W k*256^t:=by
   intro t;rw[Nat.pow_add];congr 1;unfold W;rw[Nat.pow_mul]
  have b:=e 0 ω;have c:=e 1 ω;have d:=e 2 ω;have f:=e 3 ω;have g:=p 0;have i:=p 1;have j:=p 2;have m:=p 3;simp only[Nat.add_zero,Nat.add_assoc]at*
  rw[b,c,d,f,g,i,j,m];generalize wd l k=x at*
  have a:x=1*(x/1%256)+256*(x/256%256)+65536*(x/65536%256)+16777216*(x/16777216%256):=ω;have n:=congrArg (fun t=>W k*t) a;simp only[Nat.mul_add]at n;simp only[(φ:256^0=1),(φ:256^1=256),(φ:256^2=65536),(φ:256^3=16777216),Nat.mul_assoc];omega
theorem pH{l:List Nat}(f:Lim l)(k:Nat):byt l (4*k)+byt l (4*k+1)*256+byt l (4*k+2)*65536+byt l (4*k+3)*16777216=wd l k:=by
 have g:=f.wd k
 have e: ∀t,t<4->byt l (4*k+t)=wd l k/256^t%256:=by
  intro t ht;unfold byt;rw[show(4*k+t)/4=k from ω,show(4*k+t)%4=t from by omega]
 have a:=e 0 ω;have b:=e 1 ω;have c:=e 2 ω;have d:=e 3 ω;rw[Nat.add_zero]at a;rw[a,b,c,d];simp only[(φ:256^0=1),(φ:256^1=256),(φ:256^2=65536),(φ:256^3=16777216)];omega
theorem xY{x y m:Nat}(a:(rep x).length<=m)(b:(rep y).length<=m):(rep (x+y)).length<=m+1:=by
 rw[rep_length_le]at*
 rw[bP];omega
theorem Dw{x y m n:Nat}(a:(rep x).length<=m)(b:(rep y).length<=n):(rep (x*y)).length<=m+n:=by
 rw[rep_length_le]at*
 rw[oA];exact Nat.mul_lt_mul'' a b
theorem pY{x y m:Nat}(h:x<=y)(a:(rep y).length<=m):(rep x).length<=m:=Nat.le_trans (aS h) a
theorem AT{x y:Int}{m:Nat}(c:(rep x.natAbs).length<=m)(d:(rep y.natAbs).length<=m):(rep (x+y).natAbs).length<=m+1:=pY ω (xY c d)
theorem Cd{x y:Int}{m:Nat}(c:(rep x.natAbs).length<=m)(d:(rep y.natAbs).length<=m):(rep (x-y).natAbs).length<=m+1:=pY ω (xY c d)
theorem tR{x y:Int}{m n:Nat}(c:(rep x.natAbs).length<=m)(d:(rep y.natAbs).length<=n):(rep (x*y).natAbs).length<=m+n:=by
 rw[Int.natAbs_mul];exact Dw c d
def dL(b n:Nat):List Nat:=if h:n=0∨b<2 then[]else n%b :: dL b (n/b)
termination_by n
decreasing_by exact Nat.div_lt_self (by omega) (by omega)
theorem fa(b:Nat):dL b 0=[]:=by rw[dL];simp
theorem eJ{b n:Nat}(a:2<=b)(c:0<n):dL b n=n%b :: dL b (n/b):=by
 rw[dL,dif_neg ω]
theorem xE{b:Nat}(c:2<=b)(n:Nat): ∀d∈dL b n,d<b:=by
 induction n using Nat.strongRecOn with
 |ind n ih=>
  by_cases a:n=0
  ·subst a;rw[fa];intro d h;cases h
  ·rw[eJ c ω];intro d h;rcases List.mem_cons.1 h with rfl|h
   ·exact Nat.mod_lt _ ω
   ·exact ih _ (Nat.div_lt_self ω ω) d h
theorem gB{b:Nat}(a:2<=b)(n k:Nat)(h:n<2^k):(dL b n).length<=k:=by
 induction k generalizing n with
 |zero=>rw[show n=0 by rw[Nat.pow_zero]at h;omega,fa];exact Nat.le_refl _
 |succ k ih=>
  by_cases c:n=0
  ·subst c;rw[fa];simp
  ·rw[eJ a ω];have:=ih (n/b) (by rw[Nat.pow_succ]at h;have h1:n/b<=n/2:=Nat.div_le_div_left a δ;omega);simp only[List.length_cons];omega
def sgn(d:Nat):Nat:=if d<10 then 48+d else 87+d
def txt(b n:Nat):List Nat:=if n=0 then[48]else(dL b n).reverse.map sgn
def Part(b N:Nat)(l:List Nat)(y:Nat):Prop:=(dL b N).map sgn=l++(dL b y).map sgn
theorem Part.start(b N:Nat):Part b N [] N:=rfl
theorem Part.step{b N y:Nat}{l:List Nat}(h:Part b N l y)(a:2<=b)(c:0<y):Part b N (l++[sgn (y%b)]) (y/b):=by
 unfold Part at*
 rw[h,eJ a c];simp
theorem Part.done{b N:Nat}{l:List Nat}(h:Part b N l 0):l=(dL b N).map sgn:=by
 unfold Part at h;rw[fa]at h;simpa using h.symm
theorem Part.len{b N y:Nat}{l:List Nat}(h:Part b N l y):l.length<=(dL b N).length:=by
 have:=congrArg List.length h;simp at this;omega
theorem Part.len_lt{b N y:Nat}{l:List Nat}(h:Part b N l y)(a:2<=b)(c:0<y):l.length<(dL b N).length:=by
 have:=congrArg List.length h;rw[eJ a c]at this;simp at this;omega
theorem Part.txt{b N:Nat}{l:List Nat}(h:Part b N l 0)(a:N≠0):l.reverse=txt b N:=by
 unfold Limb.txt;rw[if_neg a,h.done,List.map_reverse]
theorem vr{b q r m:Nat}(a:2<=b):(q*b^(m+1)+r)%b=r%b/\(q*b^(m+1)+r)/b=q*b^m+r/b:=by
 have e:q*b^(m+1)=b*(q*b^m):=by rw[Nat.pow_succ,<-Nat.mul_assoc,Nat.mul_comm]
 rw[e];exact⟨by rw[Nat.mul_add_mod],by rw[Nat.mul_add_div ω]⟩
theorem zO{b r m:Nat}(a:2<=b)(h:r<b^(m+1)):r/b<b^m:=by
 rw[Nat.div_lt_iff_lt_mul ω,<-Nat.pow_succ];exact h
theorem uC{b q r m:Nat}(a:2<=b):0<q*b^m+r↔0<q∨0<r:=by
 have:0<b^m:=Nat.pow_pos ω;constructor
 ·intro h;rcases Nat.eq_zero_or_pos q with hq|hq
  ·subst hq;right;simpa using h
  ·exact .inl hq
 ·rintro(h|h)
  ·have:=Nat.mul_pos h this;omega
  ·omega
def iQ(l:List Nat)(i:Nat):List Nat:=(List.range l.length).map fun t=>if t<i∨l.length-1-t<i then wd l (l.length-1-t)else wd l t
theorem cA(l:List Nat)(i:Nat):(iQ l i).length=l.length:=by simp[iQ]
theorem ij(l:List Nat)(i t:Nat)(h:t<l.length):wd (iQ l i) t=if t<i∨l.length-1-t<i then wd l (l.length-1-t)else wd l t:=by
 rw[wd_lt (by rw[cA];exact h)];simp[iQ]
theorem z7(l:List Nat):iQ l 0=l:=by
 apply dX (cA _ _);intro i a;rw[cA]at a;rw[ij _ _ _ a,if_neg ω]
theorem wl(l:List Nat)(i:Nat)(h:i<l.length):wd l.reverse i=wd l (l.length-1-i):=by
 rw[wd_lt (by simpa using h),wd_lt ω];simp
theorem A4(l:List Nat)(i:Nat)(h:l.length<=2*i+1):iQ l i=l.reverse:=by
 apply dX (by rw[cA];simp);intro t ht;rw[cA]at ht;rw[ij _ _ _ ht,wl _ _ ht];split
 ·rfl
 ·rename_i a;rw[(ω:l.length-1-t=t)]
theorem zX(l:List Nat)(i j:Nat)(f:i<j)(g:i+j+1=l.length):((iQ l i).set i (wd (iQ l i) j)).set j (wd (iQ l i) i)=iQ l (i+1):=by
 apply dX (by simp[cA]);intro t ht;rw[List.length_set,List.length_set,cA]at ht;rw[ij l (i+1) t ht];have b:wd (iQ l i) i=wd l i:=by rw[ij _ _ _ ω,if_neg ω]
 have c:wd (iQ l i) j=wd l j:=by rw[ij _ _ _ ω,if_neg ω]
 rw[b,c];by_cases h1:t=j
 ·subst h1;rw[if_pos ω,wd_lt (by simp[cA];omega)];simp;rw[(ω:l.length-1-t=i)]
 ·by_cases d:t=i
  ·subst d;rw[if_pos ω,wd_lt (by simp[cA];omega),List.getElem_set_ne ω,List.getElem_set_self];rw[(ω:l.length-1-t=j)]
  ·rw[wd_lt (by simp[cA];omega),List.getElem_set_ne ω,List.getElem_set_ne ω,<-wd_lt,ij _ _ _ ht];by_cases a:t<i∨l.length-1-t<i
   ·rw[if_pos a,if_pos ω]
   ·rw[if_neg a,if_neg ω]
open Go
structure PInv (A B i:Nat) (qs:List Nat) (r:Nat):Prop where
 eq:A/2^i=val qs/2^i*B+r
 lt:r<B
 low:val qs%2^i=0
theorem PInv.start{A B n:Nat}(a:0<B)(b:A<2^(32*n)):PInv A B (32*n) (List.replicate n 0) 0:=
 ⟨by rw[Nat.div_eq_of_lt b,cH,Nat.zero_div,Nat.zero_mul],a,by rw[cH,Nat.zero_mod]⟩
theorem PInv.done{A B:Nat}{qs:List Nat}{r:Nat}(h:PInv A B 0 qs r):val qs=A/B/\r=A%B:=by
 have e:=h.eq;rw[Nat.pow_zero,Nat.div_one,Nat.div_one]at e;have a:=h.lt;rw[e,Nat.mul_comm,Nat.mul_add_div ω,Nat.mul_add_mod,Nat.div_eq_of_lt a,Nat.mod_eq_of_lt a];exact⟨rfl,rfl⟩
theorem Bc(A i:Nat):A/2^i=2*(A/2^(i+1))+A/2^i%2:=by
 rw[Nat.pow_succ,<-Nat.div_div_eq_div_mul];omega
theorem ym{V i:Nat}(h:V%2^(i+1)=0):V%2^i=0/\V/2^i=2*(V/2^(i+1)):=by
 have h1:=Nat.div_add_mod V (2^(i+1));rw[h,Nat.add_zero]at h1
 have a:V=2^i*(2*(V/2^(i+1))):=by
  conv=>lhs;rw[<-h1]
  rw[<-Nat.mul_assoc,<-Nat.pow_succ]
 constructor
 ·rw[a];exact Nat.mul_mod_right _ _
 ·conv=>lhs;rw[a]
  exact Nat.mul_div_cancel_left _ (Nat.pow_pos δ)
theorem PInv.small{A B i:Nat}{qs:List Nat}{r:Nat}(h:PInv A B (i+1) qs r)(d:r+r+A/2^i%2<B):PInv A B i qs (r+r+A/2^i%2):=by
 obtain⟨a,c⟩:=ym h.low;refine⟨?_,d,a⟩;have u:=Bc A i;have e:=h.eq;generalize A/2^i%2=b at*
 rw[u,e,c,Nat.mul_add,Nat.mul_assoc];generalize val qs/2^(i+1)*B=t at*
 omega
theorem PInv.great{A B i:Nat}{qs qs':List Nat}{r:Nat}(h:PInv A B (i+1) qs r)(m:B<=r+r+A/2^i%2)(a:val qs'=val qs+2^i):PInv A B i qs' (r+r+A/2^i%2-B):=by
 obtain⟨j,l⟩:=ym h.low;have d:0<2^i:=Nat.pow_pos δ;have f:=h.lt;have g:A/2^i%2<2:=Nat.mod_lt _ δ;refine⟨?_,ω,by rw[a,Nat.add_mod_right];exact j⟩;have u:=Bc A i;have e:=h.eq;generalize A/2^i%2=b at*
 have k: ∀v,(2*v).succ*B=2*(v*B)+B:=fun v=>by rw[Nat.succ_mul,Nat.mul_assoc]
 rw[u,e,a,Nat.add_div_right _ d,l,k,Nat.mul_add];generalize val qs/2^(i+1)*B=t at*
 omega
theorem Ed{qs:List Nat}{i:Nat}(k:Lim qs)(t:i/32<qs.length)(h:val qs%2^(i+1)=0):wd qs (i/32)%2^(i%32+1)=0/\wd qs (i/32)+2^(i%32)<4294967296/\val (qs.set (i/32) (wd qs (i/32)+2^(i%32)))=val qs+2^i:=by
 have l:=dP k (i/32);have b:=k.wd (i/32);have u:i%32<32:=Nat.mod_lt _ δ;generalize m:i/32=d at*
 generalize c:i%32=r at*
 have a:2^i=2^r*W d:=by rw[ma i,m,c]
 have n:2^(i+1)=W d*2^(r+1):=by rw[Nat.pow_succ,a,Nat.pow_succ,Nat.mul_comm (2^r),Nat.mul_assoc]
 have e:wd qs d%2^(r+1)=0:=by
  rw[l,show 4294967296=2^(r+1)*2^(31-r)from by rw[<-Nat.pow_add,show r+1+(31-r)=32 from by omega],Nat.mod_mul_right_mod];rw[n,Nat.mod_mul]at h;have o:W d*(val qs/W d%2^(r+1))=0:=ω
  rcases Nat.mul_eq_zero.1 o with h3|h3
  ·have:=gH d;omega
  ·exact h3
 refine⟨e,?_,?_⟩
 ·have f:(2:Nat)^(r+1)*2^(31-r)=4294967296:=(by rw[<-Nat.pow_add,show r+1+(31-r)=32 from by omega]);have v:(2:Nat)^(r+1)=2^r+2^r:=by rw[Nat.pow_succ];omega
  have x:0<2^r:=Nat.pow_pos δ;have p:=Nat.div_add_mod (wd qs d) (2^(r+1));rw[e,Nat.add_zero]at p
  have q:wd qs d/2^(r+1)<2^(31-r):=by
   rw[Nat.div_lt_iff_lt_mul ω,Nat.mul_comm,f];exact b
  have s:=Nat.mul_le_mul_left (2^(r+1)) (show wd qs d/2^(r+1)+1<=2^(31-r)from q);rw[Nat.mul_add,Nat.mul_one,f]at s;omega
 ·have g:=bJ (qs.set d (wd qs d+2^r)) (d+1) (by rw[List.length_set];omega);have j:=bJ qs (d+1) ω;rw[bK _ t,List.drop_set_of_lt ω]at g;rw[aN]at j;rw[g,j,a,Nat.mul_add,Nat.mul_comm (W d) (2^r)];omega
theorem Df{z r:Nat}(c:r<32)(b:z%2^(r+1)=0)(d:z+2^r<4294967296):bits .or .u32 (z:Int) ((2^r:Nat):Int)=((z+2^r:Nat):Int):=by
 have a:2^r<2^(r+1):=Nat.pow_lt_pow_right δ ω;rw[u32_or_nat _ _ ω ω,nat_join (r+1) _ _ b a]
end Go.Proofs.YtfefijlnbhbplaaGreatDoor.Limb
namespace Go.Proofs.YtfefijlnbhbplaaGreatDoor
open Go
variable {P:Program} {md:Region.Mode} {ops:Array Oper} {Q:Exit->Act->World->Prop} {S:World->Prop}
def eL(P:Program)(md:Region.Mode)(ops:Array Oper)(Q:Exit->Act->World->Prop)(S:World->Prop)(n:Nat):Nat->Array Bool->Act->World->Prop
 |0,listed,a,w=>wpAny P md ops Q 0 listed a w
 |fuel+1,listed,a,w=>
  ((∀i,i<n->listed.getD i true=true)->wpAny P md ops Q (fuel+1) listed a w)/\
  ((∃i,i<n/\listed.getD i true=false)->Region.ready md ops listed≠[]/\∀i∈Region.ready md ops listed,wpOp P ops Q i (fun b w'=>S w'/\eL P md ops Q S n fuel (listed.setIfInBounds i true) b w') a w)
theorem nz{n:Nat}: ∀(fuel:Nat) (b:Array Bool) (a:Act) (w:World),eL P md ops Q S n fuel b a w->wpAny P md ops Q fuel b a w
 |0,_,_,_,h=>h
 |fuel+1,b,a,w,h=>by
  by_cases d: ∃i,i<n/\b.getD i true=false
  ·obtain⟨h1,e⟩:=h.2 d;exact⟨fun h0=>absurd h0 h1,fun i c=>wpOp_mono (fun f w' g=>nz fuel _ f w' g.2) (e i c)⟩
  ·refine h.1 (fun i c=>?_)
   cases hl:b.getD i true with
   |true=>rfl
   |false=>exact absurd ⟨i,c,hl⟩ d
theorem se{n i:Nat}{B:Oper}{v:Value}(V:ops[i]? =some B)(x: ∀(j:Nat) (o:Oper) L b,ops[j]? =some o->o.op≠ .select L b)(hs:Region.sinkB md ops n=true)(hc:Region.chainB md ops n=true)(hn:n<ops.size)(C:i<n)(hQ: ∀c a w,Q (.panic c) (a.put B.dst v) w->Q (.panic c) a w): ∀(fuel:Nat) (d:Array Bool) (a:Act) (w:World),HeadInv md ops n d->(∀j y,ops[j]? =some y->j≠i->d.getD j true=false->(∀e∈y.after,Region.binds md e=true->e.on≠i)->B.apart ops y=true)->i∈Region.ready md ops d->YieldsIf P ops S B v a->S w->eL P md ops Q S n fuel (d.setIfInBounds i true) (a.put B.dst v) w->eL P md ops Q S n (fuel+1) d a w:=by
 intro fuel
 induction fuel with
 |zero=>
  intro d a w A _ u M hS H;have f:=(mem_ready.1 u).1;refine⟨fun m=>(by rw[m i C]at f;cases f),fun _=>⟨fun h=>(by rw[h]at u;cases u),fun j E=>?_⟩⟩;by_cases l:j=i
  ·subst l;exact M.wpOp V hS ⟨hS,H⟩
  ·have:=ready_mono E l;rw[H.1]at this;cases this
 |succ fuel ih=>
  intro d a w A r u M hS H;have f:=(mem_ready.1 u).1;refine⟨fun m=>(by rw[m i C]at f;cases f),fun _=>⟨fun h=>(by rw[h]at u;cases u),fun j E=>?_⟩⟩;by_cases l:j=i
  ·subst l;exact M.wpOp V hS ⟨hS,H⟩
  ·have F:j<n:=by
    rcases Nat.lt_or_ge j n with h|h
    ·exact h
    ·exact absurd E (tail_waits hs hc hn A _ i rfl C f j h)
   obtain⟨q,y,z,m⟩:=mem_ready.1 E;have O: ∃k,k<n/\(d.setIfInBounds i true).getD k true=false:=⟨j,F,by rw[getD_set_ne true (Ne.symm l)];exact q⟩;have h1:=(H.2 O).2 j (ready_mono E l)
   have G: ∀e∈y.after,Region.binds md e=true->e.on≠i:=fun e Y Z R=>by
    have h1:=m e Y Z;rw[R,getD_both f]at h1;cases h1
   have X:=wpOp_putIf z (r j y z l q G) (fun L b=>x i B L b V) (fun L b=>x j y L b z) hQ M h1
   have s: ∀k ok,ops[k]? =some ok->k≠i->(d.setIfInBounds j true).getD k true=false->
     (∀e∈ok.after,Region.binds md e=true->e.on≠i)->B.apart ops ok=true:=fun k ok hk T f U=>by
    refine r k ok hk T ?_ U;by_cases I:j=k
    ·subst I;exact q
    ·rw[getD_set_ne true I]at f;exact f
   refine wpOp_mono (fun a' w' N=>⟨N.2.1,ih (d.setIfInBounds j true) a' w' (A.set E F) s (ready_mono u (Ne.symm l)) N.1 N.2.1 ?_⟩) X;rw[Array.setIfInBounds_comm _ _ l];exact N.2.2
theorem tC{n i:Nat}{j:Oper}{v:Value}{fuel:Nat}{b:Array Bool}{a:Act}{w:World}(e:HeadInv md ops n b)(k:ops[i]? =some j)(f:Region.noSelect ops=true)(hs:Region.sinkB md ops n=true)(l:Region.chainB md ops n=true)(m:n<ops.size)(g:i<n)(hf:Region.free md ops b i=true)(q:(Region.ready md ops b).contains i=true)(r: ∀c a w,Q (.panic c) (a.put j.dst v) w->Q (.panic c) a w)(u:YieldsIf P ops S j v a)(hS:S w)(h:HeadInv md ops n (b.setIfInBounds i true)->eL P md ops Q S n fuel (b.setIfInBounds i true) (a.put j.dst v) w):eL P md ops Q S n (fuel+1) b a w:=by
 have d:i∈Region.ready md ops b:=by simpa using q
 exact se k (Region.noSelect_spec f) hs l m g r fuel b a w e (Region.free_spec k hf) d u hS (h (e.set d g))
theorem eD{n i:Nat}{f:Oper}{v:Value}{fuel:Nat}{b:Array Bool}{a:Act}{w:World}(d:Tmp)(g:HeadInv md ops n b)(k:ops[i]? =some f)(l:f.dst=some d)(e:Region.noSelect ops=true)(hs:Region.sinkB md ops n=true)(m:Region.chainB md ops n=true)(q:n<ops.size)(j:i<n)(hf:Region.free md ops b i=true)(r:(Region.ready md ops b).contains i=true)(u: ∀c a w,Q (.panic c) (a.put f.dst v) w->Q (.panic c) a w)(x:YieldsIf P ops S f v a)(hS:S w)(h:HeadInv md ops n (b.setIfInBounds i true)->eL P md ops Q S n fuel (b.setIfInBounds i true) (a.put (some d) v) w):eL P md ops Q S n (fuel+1) b a w:=
 tC g k e hs m q j hf r u x hS (by rw[l];exact h)
theorem cL{n i:Nat}{fuel:Nat}{b:Array Bool}{a:Act}{w:World}(f:HeadInv md ops n b)(e:i<n)(g:Region.ready md ops b=[i])(h:HeadInv md ops n (b.setIfInBounds i true)->wpOp P ops Q i (fun m w'=>S w'/\eL P md ops Q S n fuel (b.setIfInBounds i true) m w') a w):eL P md ops Q S n (fuel+1) b a w:=by
 have k:i∈Region.ready md ops b:=by rw[g];simp
 have c:=(mem_ready.1 k).1;refine⟨fun d=>(by rw[d i e]at c;cases c),fun _=>⟨by rw[g];simp,fun j l=>?_⟩⟩;rw[g,List.mem_singleton]at l;subst l;exact h (f.set k e)
theorem gI{n fuel:Nat}{b:Array Bool}{a:Act}{w:World}(c: ∀i,i<n->b.getD i true=true)(h:wpAny P md ops Q fuel b a w):eL P md ops Q S n fuel b a w:=by
 cases fuel with
 |zero=>exact h
 |succ fuel=>
  refine⟨fun _=>h,fun⟨i,e,d⟩=>?_⟩;rw[c i e]at d;cases d
theorem gN{n id:Nat}{a:Act}{w:World}(hm:P.follows .mixedOrders=true)(hn:n<ops.size)(h:HeadInv .any ops n (Array.replicate ops.size false)->eL P .any ops Q S n ops.size (Array.replicate ops.size false) a {w with drawn:=w.drawn+1}):(Code.region id ops true).wp P Q a w:=by
 refine wp_region_any hm (nz _ _ _ _ (h ⟨by simp,fun j oj hj hl=>?_,fun t ht ht'=>?_⟩))
 ·rw[getD_replicate_false]at hl;cases hl
 ·simp[ht']
theorem eh{i:Nat}{fuel:Nat}{b:Array Bool}{a:Act}{w:World}(d:Region.ready md ops b=[i])(h:wpOp P ops Q i (fun e w'=>wpAny P md ops Q fuel (b.setIfInBounds i true) e w') a w):wpAny P md ops Q (fuel+1) b a w:=
 ⟨fun h0=>(by rw[d]at h0;cases h0),fun j c=>by rw[d,List.mem_singleton]at c;subst c;exact h⟩
theorem tkS{n:Nat}{fuel:Nat}{b:Array Bool}{a m:Act}{w:World}{f:Oper}{d:Tmp}(i:Nat)(v:Value)(j:HeadInv md ops n b)(h:HeadInv md ops n (b.setIfInBounds i true)->eL P md ops Q S n fuel (b.setIfInBounds i true) m w)(x:ops[i]? =some f:=by rfl)(z:f.dst=some d:=by rfl)(g:Region.noSelect ops=true:=by kernel_rfl)
 (hs:Region.sinkB md ops n=true:=by kernel_rfl) (A:Region.chainB md ops n=true:=by kernel_rfl) (B:n<ops.size:=by decide) (k:i<n:=by decide) (hf:Region.free md ops b i=true:=by kernel_rfl) (C:(Region.ready md ops b).contains i=true:=by kernel_rfl) (D: ∀c a w,Q (.panic c) (a.put f.dst v) w->Q (.panic c) a w:=by exact fun _ _ _ h=>h)
 (E:Region.wanted f (yielded ops a.tmps)=true:=by rfl) (y: ∀w,S w->(execOp a.eval f).run P w= .ok (.value v) w:=by exact fun _ _=>rfl) (hS:S w:=by first |with_reducible assumption|exact hX|exact hS) (F:m=a.put (some d) v:=by simp only[Act.put,zA,zB,zC];rfl):eL P md ops Q S n (fuel+1) b a w:=
 eD d j x z g hs A B k hf C D (.inl ⟨E,y⟩) hS (fun q=>by rw[<-F];exact h q)
end Go.Proofs.YtfefijlnbhbplaaGreatDoor
namespace Go.Proofs.YtfefijlnbhbplaaGreatDoor.Limb
def aU:List Nat->List Nat
 |a :: b :: c :: d :: t=>(a+256*b+65536*c+16777216*d) :: aU t
 |[a,b,c]=>[a+256*b+65536*c]
 |[a,b]=>[a+256*b]
 |[a]=>[a]
 |[]=>[]
def by4(a:Nat):List Nat:=[a%256,a/256%256,a/65536%256,a/16777216%256]
def cT:List Nat->List Nat
 |[]=>[]
 |a :: t=>by4 a++cT t
def bj(h:Hp)(o:Nat):List Nat:=(h.ws.drop (o/2+3)).take (hdO h o).size
def fF(h:Hp)(o:Nat):List Nat:=(cT (bj h o)).take (hdO h o).len
def aW(h:Hp)(c f n:Nat):Option (Nat×Hp):=
 if cU h c&&de h n then some (kR h,bU h f 0 c (List.replicate n (if f=1∨f=4 then wd h.rt 0 else 0)))else none
def fK(h:Hp)(c:Nat)(bs:List Nat):Option (Nat×Hp):=
 if cU h c&&de h ((bs.length+3)/4)then some (kR h,bU h 2 (4*((bs.length+3)/4)-bs.length) c (aU bs))else none
def putF(h:Hp)(o i v:Nat):Hp:=putW h (o/2+3+i) v
def setC(h:Hp)(o c:Nat):Hp:=putW h (o/2+1) c
def isF(h:Hp)(o f n:Nat):Bool:=isO h o&&decide ((hdO h o).fmt=f)&&decide (n<=(hdO h o).size)
def pz(h:Hp)(o i:Nat):Nat:=if isF h o 1 (i+1)then fld h o i else 0
def ahead(z:Nat):List Nat->List Nat
 |[]=>[]
 |a :: t=>if a=z then[]else a :: ahead z t
def aT(h:Hp)(r:Nat):List Nat:=if isF h (wd h.rt r) 1 0 then ahead (wd h.rt 0) (bj h (wd h.rt r))else[]
def bT(h:Hp)(t:List Nat)(o:Nat):Bool:=isF h o 2 0&&decide ((hdO h o).len=t.length)&&decide (fF h o=t)
def ek(h:Hp)(t:List Nat):Nat:=((aT h 3).find? (bT h t)).getD 0
def dO(h:Hp)(t:List Nat)(o:Nat):Bool:=isF h o 1 2&&bT h t (fld h o 0)
def fL(h:Hp)(t:List Nat):Nat:=((aT h 4).find? (dO h t)).getD 0
def jJ(h:Hp)(r o:Nat):Option Hp:=
 let l:=wd h.rt r
 let n:=(aT h r).length
 if isF h l 1 (n+1)then some (putF h l n o)else none
def bY(h:Hp)(t:List Nat):Option (Nat×Hp):=
 let s:=ek h t
 if s=0 then(fK h (wd h.rt 18) t).bind fun x=>(jJ x.2 3 x.1).map fun c=>(x.1,c)else some (s,h)
def dD(h:Hp)(t:List Nat)(v:Nat):Option (Nat×Hp):=
 if fL h t=0 then(bY h t).bind fun k=>(aW k.2 (wd k.2.rt 23) 1 2).bind fun a=>(jJ (putF (putF a.2 a.1 0 k.1) a.1 1 v) 4 a.1).map fun c=>(a.1,c)else none
structure fA where
 name:List Nat
 sup:Nat
 fmt:Nat
 idx:Bool
 fields:List (List Nat)
def plans:List fA:=[⟨[79,98,106,101,99,116],0,1,false,[]⟩,
 ⟨[67,108,97,115,115],10,1,false,[[110,97,109,101],[115,117,112,101,114,99,108,97,115,115],[109,101,116,104,111,100,115],[102,105,101,108,100,115],[102,111,114,109,97,116],[116,104,105,115]]⟩,
 ⟨[77,101,116,97,99,108,97,115,115],11,1,false,[]⟩,
 ⟨[85,110,100,101,102,105,110,101,100,79,98,106,101,99,116],10,1,false,[]⟩,
 ⟨[84,114,117,101],10,1,false,[]⟩,
 ⟨[70,97,108,115,101],10,1,false,[]⟩,
 ⟨[83,109,97,108,108,73,110,116,101,103,101,114],31,1,false,[]⟩,
 ⟨[76,97,114,103,101,73,110,116,101,103,101,114],31,3,true,[]⟩,
 ⟨[83,121,109,98,111,108],19,2,true,[]⟩,
 ⟨[83,116,114,105,110,103],10,2,true,[]⟩,
 ⟨[65,114,114,97,121],10,1,true,[]⟩,
 ⟨[87,101,97,107,65,114,114,97,121],10,4,true,[]⟩,
 ⟨[66,121,116,101,65,114,114,97,121],10,2,true,[]⟩,
 ⟨[65,115,115,111,99,105,97,116,105,111,110],10,1,false,[[107,101,121],[118,97,108,117,101]]⟩,
 ⟨[77,101,116,104,111,100],10,1,false,[[104,101,97,100,101,114],[115,101,108,101,99,116,111,114],[99,108,97,115,115],[108,105,116,101,114,97,108,115],[99,111,100,101],[115,111,117,114,99,101],[112,114,105,109,105,116,105,118,101]]⟩,
 ⟨[66,108,111,99,107],10,1,false,[[111,117,116,101,114],[112,99],[97,114,103,117,109,101,110,116,115],[116,101,109,112,111,114,97,114,105,101,115],[104,111,109,101],[115,116,97,99,107]]⟩,
 ⟨[67,111,110,116,101,120,116],10,1,true,[[115,101,110,100,101,114],[112,99],[116,111,112],[109,101,116,104,111,100],[114,101,99,101,105,118,101,114],[99,108,111,115,117,114,101],[109,97,114,107]]⟩,
 ⟨[77,101,115,115,97,103,101],10,1,false,[[115,101,108,101,99,116,111,114],[97,114,103,117,109,101,110,116,115]]⟩,
 ⟨[80,114,111,99,101,115,115],10,1,false,[[99,111,110,116,101,120,116],[112,114,105,111,114,105,116,121],[110,101,120,116],[110,97,109,101],[119,97,107,101],[119,97,105,116,105,110,103],[114,101,115,117,108,116]]⟩,
 ⟨[83,101,109,97,112,104,111,114,101],10,1,false,[[115,105,103,110,97,108,115],[102,105,114,115,116],[108,97,115,116]]⟩,
 ⟨[69,120,99,101,112,116,105,111,110],10,1,false,[[109,101,115,115,97,103,101,84,101,120,116],[115,105,103,110,97,108,67,111,110,116,101,120,116],[104,97,110,100,108,101,114,67,111,110,116,101,120,116],[116,97,103]]⟩,
 ⟨[73,110,116,101,103,101,114],10,1,false,[]⟩]
def sels:List (List Nat):=[[100,111,101,115,78,111,116,85,110,100,101,114,115,116,97,110,100,58],
 [109,117,115,116,66,101,66,111,111,108,101,97,110],
 [99,97,110,110,111,116,82,101,116,117,114,110,58],
 [97,98,111,117,116,84,111,82,101,116,117,114,110,58,116,104,114,111,117,103,104,58],
 [118,97,108,117,101],
 [118,97,108,117,101,58],
 [118,97,108,117,101,58,118,97,108,117,101,58],
 [118,97,108,117,101,58,118,97,108,117,101,58,118,97,108,117,101,58],
 [100,111,73,116],
 [115,105,103,110,97,108],
 [117,110,119,105,110,100]]
def bu:Nat->Nat->Nat
 |0,_=>0
 |k+1,r=>if r=0 then 0 else match plans[r-10]? with |none=>0|some p=>p.fields.length+bu k p.sup
def bA(f a:Nat)(i:Bool):Nat:=f+8*a+(if i then 65536 else 0)
def jY(h:Hp)(r n:Nat):Option Hp:=(aW h 0 1 n).map fun x=>setR x.2 r x.1
def dp:List Nat->Hp->Option (List Nat×Hp)
 |[],h=>some ([],h)
 |r :: t,h=>(jY h r 6).bind fun h1=>(aW h1 0 1 6).bind fun m=>(dp t m.2).map fun x=>(m.1 :: x.1,x.2)
def kI(h:Hp)(a:List Nat)(i:Nat)(p:fA):Hp:=
 let c:=wd h.rt (10+i)
 let m:=wd a i
 let h:=putF h c 4 (2*bA p.fmt (bu 6 (10+i)) p.idx+1)
 let h:=putF h m 4 (2*49+1)
 let h:=putF h m 5 c
 let h:=putF h m 1 (wd h.rt 11)
 let h:=if p.sup=0 then h else putF (putF h c 1 (wd h.rt p.sup)) m 1 (wd a (p.sup-10))
 setC (setC h c m) m (wd h.rt 12)
def da(a:List Nat):Nat->List fA->Hp->Hp
 |_,[],h=>h
 |i,p :: t,h=>da a (i+1) t (kI h a i p)
def dt:Nat->List fA->Hp->Option Hp
 |_,[],h=>some h
 |i,p :: t,h=>(bY h p.name).bind fun s=>(dD (putF s.2 (wd s.2.rt (10+i)) 0 s.1) p.name (wd s.2.rt (10+i))).bind fun x=>dt (i+1) t x.2
def dV:Nat->List (List Nat)->Hp->Option Hp
 |_,[],h=>some h
 |i,p :: t,h=>(bY h p).bind fun s=>dV (i+1) t (putF s.2 (wd s.2.rt 8) i s.1)
def bR:List (List Nat)->Hp->Option (List Nat×Hp)
 |[],h=>some ([],h)
 |s :: t,h=>(bY h s).bind fun x=>(bR t x.2).map fun y=>(x.1 :: y.1,y.2)
def aY(a:Nat):Nat->List Nat->Hp->Hp
 |_,[],h=>h
 |i,v :: t,h=>aY a (i+1) t (putF h a i v)
def kf(h:Hp)(c:Nat)(fs:List (List Nat)):Option Hp:=
 (bR fs h).bind fun x=>(aW x.2 (wd x.2.rt 20) 1 fs.length).map fun a=>putF (aY a.1 0 x.1 a.2) c 3 a.1
def bo:Nat->List fA->Hp->Option Hp
 |_,[],h=>some h
 |i,p :: t,h=>if p.fields=[]then bo (i+1) t h else(kf h (wd h.rt (10+i)) p.fields).bind (bo (i+1) t)
def B8(t:List Nat):Prop:= ∀x∈t,x<256
theorem B8.tail{a:Nat}{t:List Nat}(h:B8 (a :: t)):B8 t:=fun x b=>h x (by simp[b])
theorem B8.head{a:Nat}{t:List Nat}(h:B8 (a :: t)):a<256:=h a (by simp)
theorem ct: ∀t:List Nat,(aU t).length=(t.length+3)/4
 |[]=>rfl
 |[_]=>by simp[aU]
 |[_,_]=>by simp[aU]
 |[_,_,_]=>by simp[aU]
 |a :: b :: c :: d :: t=>by
  show(aU t).length+1=_
  rw[ct t];simp only[List.length_cons];omega
theorem jE: ∀t:List Nat,B8 t->Lim (aU t)
 |[],_=>Lim.nil
 |[a],h=>Lim.cons (by have:=h.head;omega) Lim.nil
 |[a,b],h=>Lim.cons (by have:=h.head;have:=h.tail.head;omega) Lim.nil
 |[a,b,c],h=>Lim.cons (by have:=h.head;have:=h.tail.head;have:=h.tail.tail.head;omega) Lim.nil
 |a :: b :: c :: d :: t,h=>by
  refine Lim.cons (by have:=h.head;have:=h.tail.head;have:=h.tail.tail.head;have:=h.tail.tail.tail.head;omega) (jE t h.tail.tail.tail.tail)
theorem sf{a b c d:Nat}(e:a<256)(f:b<256)(g:c<256)(i:d<256):by4 (a+256*b+65536*c+16777216*d)=[a,b,c,d]:=by
 unfold by4;rw[List.cons.injEq,List.cons.injEq,List.cons.injEq,List.cons.injEq];refine⟨?_,?_,?_,?_,rfl⟩<;>omega
theorem Fl{a:Nat}(h:a<4294967296):a%256+256*(a/256%256)+65536*(a/65536%256)+16777216*(a/16777216%256)=a:=ω
theorem dk(l:List Nat):(cT l).length=4*l.length:=by
 induction l with
 |nil=>rfl
 |cons a t ih=>show(by4 a++cT t).length=_;rw[List.length_append,ih];show 4+_=_;simp only[List.length_cons];omega
theorem DR(l:List Nat):B8 (cT l):=by
 induction l with
 |nil=>intro x b;cases b
 |cons a t ih=>
  intro x b;rcases List.mem_append.1 (show x∈by4 a++cT t from b)with h|h
  ·unfold by4 at h;simp only[List.mem_cons,List.not_mem_nil,or_false]at h;rcases h with rfl|rfl|rfl|rfl<;>omega
  ·exact ih x h
theorem vb(l:List Nat)(h:Lim l):aU (cT l)=l:=by
 induction l with
 |nil=>rfl
 |cons a t ih=>
  show(a%256+256*(a/256%256)+65536*(a/65536%256)+16777216*(a/16777216%256)) :: aU (cT t)=_
  rw[ih h.tail,Fl h.head]
theorem oZ: ∀t:List Nat,B8 t->cT (aU t)=t++List.replicate (4*((t.length+3)/4)-t.length) 0
 |[],_=>rfl
 |[a],h=>by
  have e:=sf h.head (b:=0) (c:=0) (d:=0) δ δ δ;show by4 a++[]=_
  rw[(ω:a+256*0+65536*0+16777216*0=a)]at e;rw[e,show 4*(([a].length+3)/4)-[a].length=3 by simp];rfl
 |[a,b],h=>by
  have e:=sf h.head h.tail.head (c:=0) (d:=0) δ δ;show by4 (a+256*b)++[]=_
  rw[(ω:a+256*b+65536*0+16777216*0=a+256*b)]at e;rw[e,show 4*(([a,b].length+3)/4)-[a,b].length=2 by simp];rfl
 |[a,b,c],h=>by
  have e:=sf h.head h.tail.head h.tail.tail.head (d:=0) δ;show by4 (a+256*b+65536*c)++[]=_
  rw[(ω:a+256*b+65536*c+16777216*0=a+256*b+65536*c)]at e;rw[e,show 4*(([a,b,c].length+3)/4)-[a,b,c].length=1 by simp];rfl
 |a :: b :: c :: d :: t,h=>by
  show by4 (a+256*b+65536*c+16777216*d)++cT (aU t)=_
  rw[sf h.head h.tail.head h.tail.tail.head h.tail.tail.tail.head,oZ t h.tail.tail.tail.tail]
  have e:4*(((a :: b :: c :: d :: t).length+3)/4)-(a :: b :: c :: d :: t).length=4*((t.length+3)/4)-t.length:=by
   simp only[List.length_cons];omega
  rw[e];rfl
theorem mA(a b:List Nat):cT (a++b)=cT a++cT b:=by
 induction a with
 |nil=>rfl
 |cons x t ih=>show by4 x++cT (t++b)=by4 x++cT t++cT b;rw[ih,List.append_assoc]
theorem oP{l:List Nat}{s n:Nat}(hs:s<=3)(f:l.length=n+1)(h:wd l n<2^(32-8*s)):(cT l).drop (4*l.length-s)=List.replicate s 0:=by
 have e:l=l.take n++[wd l n]:=by rw[<-iz ω,List.take_of_length_le ω]
 have b:(l.take n).length=n:=by rw[List.length_take];omega
 rw[f,e,mA,List.drop_append,dk,b,List.drop_of_length_le (by rw[dk,b];omega),List.nil_append];have c:4*(n+1)-s-4*n=4-s:=ω
 rw[c];generalize wd l n=a at h;show(by4 a++[]).drop (4-s)=_
 rw[List.append_nil];unfold by4;have:s=0∨s=1∨s=2∨s=3:=ω
 rcases this with rfl|rfl|rfl|rfl
 ·rfl
 ·show[a/16777216%256]=[0]
  have:a<16777216:=h;rw[(ω:a/16777216%256=0)]
 ·show[a/65536%256,a/16777216%256]=[0,0]
  have:a<65536:=h;rw[(ω:a/16777216%256=0),(ω:a/65536%256=0)]
 ·show[a/256%256,a/65536%256,a/16777216%256]=[0,0,0]
  have:a<256:=h;rw[(ω:a/16777216%256=0),(ω:a/65536%256=0),(ω:a/256%256=0)]
theorem sj{a b:List Nat}(c:Lim a)(d:Lim b)(e:a.length=b.length)(h:val a=val b):a=b:=
 dX e fun i _=>by rw[dP c,dP d,h]
theorem bg{h:Hp}(k:Good h){o:Nat}(a:isO h o=true):(bj h o).length=(hdO h o).size:=by
 have:=k.inside _ (isO_iff.1 a).2.2;unfold bj;rw[List.length_take,List.length_drop];show min (hd h (o/2)).size _=(hd h (o/2)).size
 omega
theorem fB{h:Hp}(k:Good h)(o:Nat):Lim (bj h o):=(k.lim.drop _).take _
theorem fk{h:Hp}{o i:Nat}(a:i<(hdO h o).size):wd (bj h o) i=fld h o i:=by
 unfold bj fld;rw[wd_take a,wd_drop]
theorem DD{h:Hp}(k:Good h){o:Nat}(C:isO h o=true)(hf:(hdO h o).fmt=2){t:List Nat}(ht:B8 t)(F:(hdO h o).len=t.length):fF h o=t↔bj h o=aU t:=by
 have A:=(isO_iff.1 C).2.2;obtain⟨b,_⟩:=k.ok _ A;have b:(hdO h o).Ok:=b;have c:=bg k C;have u:=b.spare;have v:=b.sp;have j:(hdO h o).len=4*(hdO h o).size-(hdO h o).spare:=by unfold Hd.len;rw[if_pos hf]
 have x:(t.length+3)/4=(hdO h o).size:=ω
 have q:(cT (bj h o)).drop (4*(bj h o).length-(hdO h o).spare)=List.replicate (hdO h o).spare 0:=by
  by_cases h0:(hdO h o).spare=0
  ·rw[h0,List.drop_of_length_le (by rw[dk];omega)];rfl
  ·obtain⟨n,E⟩: ∃n,(hdO h o).size=n+1:=⟨(hdO h o).size-1,by rcases v with h1|h1<;>omega⟩;refine oP u (c.trans E) ?_;rw[fk ω];have:=k.spz _ A hf (show 0<(hd h (o/2)).spare from Nat.pos_of_ne_zero h0);rw[show o/2+2+(hd h (o/2)).size=o/2+3+n by show o/2+2+(hdO h o).size=_;omega]at this;exact this
 constructor
 ·intro e
  have D:cT (bj h o)=t++List.replicate (hdO h o).spare 0:=by
   rw[<-q,<-e];unfold fF;rw[j,c];exact(List.take_append_drop _ _).symm
  have B:=oZ t ht;rw[x,(ω:4*(hdO h o).size-t.length=(hdO h o).spare),<-D]at B;rw[<-vb _ (fB k o),<-B,vb _ (jE t ht)]
 ·intro e;unfold fF;rw[e,oZ t ht,F,List.take_append_of_le_length ι,List.take_length]
def dx:List Bool->Nat
 |[]=>0
 |b :: t=>(if b then 1 else 0)+2*dx t
theorem oH: ∀(l:List Bool) (i:Nat),l.getD i false=decide (dx l/2^i%2=1)
 |[],i=>by simp[dx]
 |b :: t,0=>by
  show b=decide (((if b then 1 else 0)+2*dx t)/2^0%2=1)
  cases b<;>simp<;>omega
 |b :: t,i+1=>by
  have h:=oH t i
  have e:dx (b :: t)/2^(i+1)=dx t/2^i:=by
   show((if b then 1 else 0)+2*dx t)/2^(i+1)=_
   rw[Nat.pow_succ,Nat.mul_comm (2^i) 2,<-Nat.div_div_eq_div_mul];congr 1;cases b<;>simp<;>omega
  rw[e,<-h];rfl
theorem sc(a b:List Bool):dx (a++b)=dx a+2^a.length*dx b:=by
 induction a with
 |nil=>simp[dx]
 |cons x t ih=>
  show(if x then 1 else 0)+2*dx (t++b)=(if x then 1 else 0)+2*dx t+2^(t.length+1)*dx b
  rw[ih,Nat.pow_succ,Nat.mul_add,Nat.mul_comm (2^t.length) 2,Nat.mul_assoc,Nat.add_assoc]
theorem ut(n:Nat):dx (List.replicate n false)=0:=by
 induction n with
 |zero=>rfl
 |succ n ih=>show 0+2*dx (List.replicate n false)=0;rw[ih]
structure Pk where
 V:Nat
 n:Nat
 S:Nat
 R:Nat
 size:Nat
 last:Nat
def pk(h:Hp):Pk:=⟨val h.ws,h.ws.length,dx h.st,val h.rt,h.size,h.last⟩
def rd(V i:Nat):Nat:=V/W i%4294967296
def FO(p:Pk)(i:Nat):Bool:=decide (p.S/2^i%2=1)
def qhd(p:Pk)(i:Nat):Hd:=unp (rd p.V i) (rd p.V (i+1)) (rd p.V (i+2))
def qO(p:Pk)(o:Nat):Bool:=decide (o≠0)&&decide (o%2=0)&&FO p (o/2)
def qC(p:Pk)(o:Nat):Bool:=decide (o=0)||qO p o
def qF(p:Pk)(o f n:Nat):Bool:=qO p o&&decide ((qhd p (o/2)).fmt=f)&&decide (n<=(qhd p (o/2)).size)
def xm(p:Pk)(o:Nat):Nat:=p.V/W (o/2+3)%W (qhd p (o/2)).size
def sX(z:Nat):Nat->Nat->List Nat
 |0,_=>[]
 |k+1,x=>if x%4294967296=z then[]else x%4294967296 :: sX z k (x/4294967296)
def AJ(p:Pk)(r:Nat):List Nat:=if qF p (rd p.R r) 1 0 then sX (rd p.R 0) (qhd p (rd p.R r/2)).size (xm p (rd p.R r))else[]
def oC(p:Pk)(t:List Nat)(o:Nat):Bool:=qF p o 2 0&&decide ((qhd p (o/2)).len=t.length)&&decide (xm p o=val (aU t))
def xH(p:Pk)(t:List Nat)(o:Nat):Bool:=qF p o 1 2&&oC p t (rd p.V (o/2+3+0))
def Ee(p:Pk)(i v:Nat):Pk:={p with V:=p.V+W i*v-W i*rd p.V i}
def Cb(p:Pk)(i v:Nat):Pk:={p with R:=p.R+W i*v-W i*rd p.R i}
def Ct(p:Pk)(n:Nat):Bool:=decide (p.n+3+n<=p.size)&&decide (p.last≠4294967295)
def Dp(p:Pk)(f spare c m a:Nat):Pk:=
 {V:=p.V+W p.n*(Hd.w0 ⟨m,f,spare,c,p.last+1⟩+4294967296*(c+4294967296*(p.last+1+4294967296*a))),n:=p.n+3+m,S:=p.S+2^p.n,R:=p.R,size:=p.size,last:=p.last+1}
theorem yg{l:List Nat}{i d:Nat}(h:i<l.length):val (l.set i d)+W i*wd l i=val l+W i*d:=by
 induction l generalizing i with
 |nil=>simp at h
 |cons a t ih=>
  cases i with
  |zero=>show d+4294967296*val t+W 0*a=a+4294967296*val t+W 0*d;rw[eS];omega
  |succ i=>
   have b:=ih (i:=i) (by simpa using h);show a+4294967296*val (t.set i d)+W (i+1)*wd t i=a+4294967296*val t+W (i+1)*d
   rw[bP,Nat.mul_assoc,Nat.mul_assoc];omega
section
variable {h:Hp} (k:Good h)
include k
theorem ud(i:Nat):rd (pk h).V i=wd h.ws i:=(dP k.lim i).symm
theorem c8(i:Nat):rd (pk h).R i=wd h.rt i:=(dP k.rlim i).symm
theorem rJ(i:Nat):qhd (pk h) i=hd h i:=by unfold qhd hd;rw[ud k,ud k,ud k]
omit k in
theorem DP(i:Nat):FO (pk h) i=bi h i:=(oH h.st i).symm
omit k in
theorem qB(o:Nat):qO (pk h) o=isO h o:=by unfold qO isO;rw[DP]
omit k in
theorem AB(o:Nat):qC (pk h) o=cU h o:=by unfold qC cU;rw[qB]
theorem ow(o f n:Nat):qF (pk h) o f n=isF h o f n:=by unfold qF isF;rw[qB,rJ k];rfl
theorem u9(o:Nat):xm (pk h) o=val (bj h o):=by
 unfold xm bj;rw[fZ (k.lim.drop _),ll k.lim,rJ k];rfl
omit k in
theorem qH(z:Nat): ∀l:List Nat,Lim l->sX z l.length (val l)=ahead z l
 |[],_=>rfl
 |a :: t,hl=>by
  show(if(a+4294967296*val t)%4294967296=z then[]else(a+4294967296*val t)%4294967296 :: sX z t.length ((a+4294967296*val t)/4294967296))=if a=z then[]else a :: ahead z t
  have:=hl.head;rw[(ω:(a+4294967296*val t)%4294967296=a),(ω:(a+4294967296*val t)/4294967296=val t),qH z t hl.tail]
theorem sT(r:Nat):AJ (pk h) r=aT h r:=by
 unfold AJ aT;rw[c8 k,c8 k,ow k];by_cases hf:isF h (wd h.rt r) 1 0=true
 ·rw[if_pos hf,if_pos hf,u9 k,rJ k];have a:isO h (wd h.rt r)=true:=by unfold isF at hf;simp only[Bool.and_eq_true]at hf;exact hf.1.1
  rw[<-qH _ _ (fB k _),bg k a];rfl
 ·rw[if_neg hf,if_neg hf]
theorem pM{t:List Nat}(ht:B8 t)(o:Nat):oC (pk h) t o=bT h t o:=by
 unfold oC bT;rw[ow k,rJ k,u9 k];by_cases hf:isF h o 2 0=true
 ·by_cases c:(hdO h o).len=t.length
  ·have b:isO h o=true/\(hdO h o).fmt=2:=(by unfold isF at hf;simp only[Bool.and_eq_true,decide_eq_true_eq]at hf;exact hf.1);rw[hf,(φ:hd h (o/2)=hdO h o),decide_eq_true c,Bool.true_and,Bool.true_and];refine decide_eq_decide.2 ?_;rw[DD k b.1 b.2 ht c];refine⟨fun e=>sj (fB k o) (jE t ht) ?_ e,fun e=>by rw[e]⟩;rw[bg k b.1,ct];have h1:=(k.ok _ (isO_iff.1 b.1).2.2).1;have d:=h1.spare;have j:(hdO h o).len=4*(hdO h o).size-(hdO h o).spare:=by unfold Hd.len;rw[if_pos b.2]
   have g:=h1.sp;have d:(hdO h o).spare<=3:=d;have g:(hdO h o).spare=0∨((hdO h o).fmt=2/\0<(hdO h o).size):=g;omega
  ·rw[(φ:hd h (o/2)=hdO h o),decide_eq_false c,Bool.and_false,Bool.false_and];simp
 ·rw[Bool.not_eq_true]at hf;rw[hf];rfl
theorem Bb{t:List Nat}(ht:B8 t)(o:Nat):xH (pk h) t o=dO h t o:=by
 unfold xH dO;rw[ow k,ud k,pM k ht];rfl
theorem yd{i v:Nat}(a:i<h.ws.length):pk (putW h i v)=Ee (pk h) i v:=by
 have e:=yg (d:=v) a;unfold Ee;rw[ud k];unfold pk putW;simp only[List.length_set];rw[Pk.mk.injEq];exact⟨ω,rfl,rfl,rfl,rfl,rfl⟩
theorem CH{i v:Nat}(a:i<64):pk (setR h i v)=Cb (pk h) i v:=by
 have e:=yg (d:=v) (l:=h.rt) (i:=i) (by rw[k.rlen];exact a);unfold Cb;rw[c8 k];unfold pk setR;rw[Pk.mk.injEq];exact⟨rfl,rfl,rfl,by show val (h.rt.set i v)=val h.rt+W i*v-W i*wd h.rt i;omega,rfl,rfl⟩
theorem xW(f spare c:Nat)(fs:List Nat):pk (bU h f spare c fs)=Dp (pk h) f spare c fs.length (val fs):=by
 unfold pk Dp bU;rw[Pk.mk.injEq];refine⟨?_,by simp;omega,?_,rfl,rfl,rfl⟩
 ·show val (h.ws++_)=_
  rw[eW];rfl
 ·show dx (h.st++_)=_
  rw[sc,k.len];show _+2^_*(1+2*dx (List.replicate (2+fs.length) false))=_
  rw[ut];simp
omit k in
theorem t9(n:Nat):Ct (pk h) n=de h n:=rfl
end
def Up{α:Type}(x:Option (α×Hp))(y:Option (α×Pk)):Prop:= ∀a p,y=some (a,p)->∃h,x=some (a,h)/\pk h=p/\Good h
def Up1(x:Option Hp)(y:Option Pk):Prop:= ∀p,y=some p->∃h,x=some h/\pk h=p/\Good h
theorem eB{h:Hp}(k:Good h){c:Nat}(a:cU h c=true):c<4294967296:=by
 unfold cU at a;simp only[Bool.or_eq_true,decide_eq_true_eq]at a;rcases a with rfl|a
 ·decide
 ·have:=isO_iff.1 a;have h1:=fS this.2.2;have:=k.len;have:=k.fits;have:=k.sM;omega
theorem nG: ∀t:List Nat,B8 t->wd (aU t) ((aU t).length-1)<2^(32-8*(4*((t.length+3)/4)-t.length))
 |[],_=>δ
 |[a],h=>by
  rw[show 4*(([a].length+3)/4)-[a].length=3 by simp];show a<256;exact h.head
 |[a,b],h=>by
  rw[show 4*(([a,b].length+3)/4)-[a,b].length=2 by simp];show a+256*b<65536;have:=h.head;have:=h.tail.head;omega
 |[a,b,c],h=>by
  rw[show 4*(([a,b,c].length+3)/4)-[a,b,c].length=1 by simp];show a+256*b+65536*c<16777216;have:=h.head;have:=h.tail.head;have:=h.tail.tail.head;omega
 |a :: b :: c :: d :: t,h=>by
  have e:4*(((a :: b :: c :: d :: t).length+3)/4)-(a :: b :: c :: d :: t).length=4*((t.length+3)/4)-t.length:=by
   simp only[List.length_cons];omega
  rw[e];have f:=nG t h.tail.tail.tail.tail;by_cases h0:t=[]
  ·subst h0;show a+256*b+65536*c+16777216*d<4294967296
   have:=h.head;have:=h.tail.head;have:=h.tail.tail.head;have:=h.tail.tail.tail.head;omega
  ·have j:0<(aU t).length:=(by rw[ct];have:=List.length_pos_iff.2 h0;omega);obtain⟨n,i⟩: ∃n,(aU t).length=n+1:=⟨(aU t).length-1,ω⟩;rw[i,Nat.add_sub_cancel]at f;show wd (_ :: aU t) ((aU t).length+1-1)<_
   rw[i,Nat.add_sub_cancel,dc];exact f
theorem jl{h:Hp}(k:Good h){c:Nat}{t:List Nat}(ht:B8 t)(d:t.length<=262140)(a:cU h c=true)(b:de h ((t.length+3)/4)=true):Good (bU h 2 (4*((t.length+3)/4)-t.length) c (aU t)):=by
 have e:=ct t;refine k.add (by rw[e];exact b) ⟨?_,?_,?_,?_,?_⟩ (eB k a) (jE t ht) ?_
 ·show(aU t).length<=65535;omega
 ·show 1<=2;decide
 ·show 2<=4;decide
 ·show 4*((t.length+3)/4)-t.length<=3;omega
 ·show 4*((t.length+3)/4)-t.length=0∨(2=2/\0<(aU t).length)
  rw[e];omega
 ·intro _ _;exact nG t ht
theorem iC{h:Hp}(k:Good h){c f n v:Nat}(hf:1<=f)(a:f<=4)(b:n<=65535)(d:v<4294967296)(j:cU h c=true)(m:de h n=true):Good (bU h f 0 c (List.replicate n v)):=by
 refine k.add (by rw[List.length_replicate];exact m) ⟨?_,hf,a,?_,.inl rfl⟩ (eB k j) (Lim.replicate _ d) (fun _ h=>absurd h δ)
 ·show(List.replicate n v).length<=65535;rw[List.length_replicate];exact b
 ·show 0<=3;decide
def mo(p:Pk)(c f n:Nat):Option (Nat×Pk):=
 if qC p c&&Ct p n&&decide (1<=f)&&decide (f<=4)&&decide (n<=65535)then some (2*p.n,Dp p f 0 c n (val (List.replicate n (if f=1∨f=4 then rd p.R 0 else 0))))else none
theorem kN{h:Hp}(k:Good h)(c f n:Nat):Up (aW h c f n) (mo (pk h) c f n):=by
 intro a p b;unfold mo at b;split at b
 ·rename_i e;simp only[Bool.and_eq_true,decide_eq_true_eq]at e;obtain⟨⟨⟨⟨c1,d⟩,g⟩,i⟩,j⟩:=e;rw[AB]at c1;rw[t9]at d;rw[Option.some.injEq,Prod.mk.injEq]at b;obtain⟨rfl,rfl⟩:=b;refine⟨_,by unfold aW;rw[if_pos (by rw[c1,d];rfl)];rfl,?_,?_⟩
  ·rw[xW k,List.length_replicate,c8 k]
  ·refine iC k g i j ?_ c1 d;split
   ·exact k.rlim.wd 0
   ·decide
 ·cases b
def Cl(p:Pk)(c:Nat)(t:List Nat):Option (Nat×Pk):=
 if qC p c&&Ct p ((t.length+3)/4)then some (2*p.n,Dp p 2 (4*((t.length+3)/4)-t.length) c ((t.length+3)/4) (val (aU t)))else none
theorem Eo{h:Hp}(k:Good h)(c:Nat){t:List Nat}(ht:B8 t)(e:t.length<=262140):Up (fK h c t) (Cl (pk h) c t):=by
 intro a p d;unfold Cl at d;split at d
 ·rename_i b;simp only[Bool.and_eq_true]at b;rw[AB,t9]at b;rw[Option.some.injEq,Prod.mk.injEq]at d;obtain⟨rfl,rfl⟩:=d;refine⟨_,by unfold fK;rw[if_pos (by rw[b.1,b.2];rfl)];rfl,?_,jl k ht e b.1 b.2⟩;rw[xW k,ct]
 ·cases d
def gz(p:Pk)(o i v:Nat):Option Pk:=if qF p o 1 (i+1)&&decide (v<4294967296)then some (Ee p (o/2+3+i) v)else none
theorem fq{h:Hp}(k:Good h){o i v f:Nat}(hf:isF h o f (i+1)=true)(c:f≠2)(d:v<4294967296):Good (putF h o i v):=by
 unfold isF at hf;simp only[Bool.and_eq_true,decide_eq_true_eq]at hf;obtain⟨⟨h1,a⟩,b⟩:=hf;exact k.putW (isO_iff.1 h1).2.2 (show i<(hd h (o/2)).size from b) d (fun e=>absurd (a.symm.trans e) c)
theorem oQ{h:Hp}(k:Good h){o i f:Nat}(hf:isF h o f (i+1)=true):o/2+3+i<h.ws.length:=by
 unfold isF at hf;simp only[Bool.and_eq_true,decide_eq_true_eq]at hf;have:=k.inside _ (isO_iff.1 hf.1.1).2.2;have a:i+1<=(hd h (o/2)).size:=hf.2;omega
theorem du{h:Hp}(k:Good h)(o i v:Nat):Up1 (some (putF h o i v)) (gz (pk h) o i v):=by
 intro p a;unfold gz at a;split at a
 ·rename_i b;simp only[Bool.and_eq_true,decide_eq_true_eq]at b;rw[ow k]at b;obtain⟨h1,c⟩:=b;exact⟨_,rfl,by rw[<-Option.some.inj a];exact yd k (oQ k h1),fq k h1 δ c⟩
 ·cases a
def vy(p:Pk)(o c:Nat):Option Pk:=if qO p o&&qC p c then some (Ee p (o/2+1) c)else none
theorem nH{h:Hp}(k:Good h)(o c:Nat):Up1 (some (setC h o c)) (vy (pk h) o c):=by
 intro p a;unfold vy at a;split at a
 ·rename_i b;simp only[Bool.and_eq_true]at b;rw[qB,AB]at b;have d:=(isO_iff.1 b.1).2.2;have:=k.inside _ d;exact⟨_,rfl,by rw[<-Option.some.inj a];exact yd k ω,k.setC d (eB k b.2)⟩
 ·cases a
def xP(p:Pk)(i v:Nat):Option Pk:=if decide (i<64)&&decide (v<4294967296)then some (Cb p i v)else none
theorem xr{h:Hp}(k:Good h)(i v:Nat):Up1 (some (setR h i v)) (xP (pk h) i v):=by
 intro p a;unfold xP at a;split at a
 ·rename_i b;simp only[Bool.and_eq_true,decide_eq_true_eq]at b;exact⟨_,rfl,by rw[<-Option.some.inj a];exact CH k b.1,k.setR b.2⟩
 ·cases a
def yh(p:Pk)(r o:Nat):Option Pk:=gz p (rd p.R r) (AJ p r).length o
theorem xt{h:Hp}(k:Good h)(r o:Nat):Up1 (jJ h r o) (yh (pk h) r o):=by
 intro p a;unfold yh at a;rw[c8 k,sT k]at a;obtain⟨h1,e,c,d⟩:=du k _ _ _ p a;refine⟨h1,?_,c,d⟩;unfold jJ;unfold gz at a;split at a
 ·rename_i b;simp only[Bool.and_eq_true]at b;rw[ow k]at b;simp only[if_pos b.1];exact e
 ·cases a
theorem Up.bind{α β:Type}{x:Option (α×Hp)}{y:Option (α×Pk)}{f:α×Hp->Option (β×Hp)}{g:α×Pk->Option (β×Pk)}(h:Up x y)(hf: ∀a h1,Good h1->Up (f (a,h1)) (g (a,pk h1))):Up (x.bind f) (y.bind g):=by
 intro b p n;obtain⟨⟨a,q⟩,c,d⟩:=Option.bind_eq_some_iff.1 n;obtain⟨h1,e,rfl,k⟩:=h a q c;obtain⟨i,j,l,m⟩:=hf a h1 k b p d;exact⟨i,by rw[e];exact j,l,m⟩
theorem Up.ag{α:Type}{x:Option (α×Hp)}{y:Option (α×Pk)}{f:α×Hp->Option Hp}{g:α×Pk->Option Pk}(h:Up x y)(hf: ∀a h1,Good h1->Up1 (f (a,h1)) (g (a,pk h1))):Up1 (x.bind f) (y.bind g):=by
 intro p m;obtain⟨⟨a,q⟩,b,c⟩:=Option.bind_eq_some_iff.1 m;obtain⟨h1,d,rfl,k⟩:=h a q b;obtain⟨e,i,j,l⟩:=hf a h1 k p c;exact⟨e,by rw[d];exact i,j,l⟩
theorem Up1.bind{β:Type}{x:Option Hp}{y:Option Pk}{f:Hp->Option (β×Hp)}{g:Pk->Option (β×Pk)}(h:Up1 x y)(hf: ∀h1,Good h1->Up (f h1) (g (pk h1))):Up (x.bind f) (y.bind g):=by
 intro b p m;obtain⟨q,a,c⟩:=Option.bind_eq_some_iff.1 m;obtain⟨h1,d,rfl,k⟩:=h q a;obtain⟨e,i,j,l⟩:=hf h1 k b p c;exact⟨e,by rw[d];exact i,j,l⟩
theorem Up1.ag{x:Option Hp}{y:Option Pk}{f:Hp->Option Hp}{g:Pk->Option Pk}(h:Up1 x y)(hf: ∀h1,Good h1->Up1 (f h1) (g (pk h1))):Up1 (x.bind f) (y.bind g):=by
 intro p l;obtain⟨q,a,b⟩:=Option.bind_eq_some_iff.1 l;obtain⟨h1,c,rfl,k⟩:=h q a;obtain⟨d,e,i,j⟩:=hf h1 k p b;exact⟨d,by rw[c];exact e,i,j⟩
theorem Up1.map{β:Type}{x:Option Hp}{y:Option Pk}(h:Up1 x y)(b:β):Up (x.map fun z=>(b,z)) (y.map fun z=>(b,z)):=by
 intro c p f;obtain⟨q,d,a⟩:=Option.map_eq_some_iff.1 f;obtain⟨h1,e,rfl,k⟩:=h q d;rw[Prod.mk.injEq]at a;obtain⟨rfl,rfl⟩:=a;exact⟨h1,by rw[e];rfl,rfl,k⟩
theorem Up.map{α β:Type}{x:Option (α×Hp)}{y:Option (α×Pk)}(h:Up x y)(f:α->β):Up (x.map fun z=>(f z.1,z.2)) (y.map fun z=>(f z.1,z.2)):=by
 intro c p g;obtain⟨⟨a,q⟩,d,b⟩:=Option.map_eq_some_iff.1 g;obtain⟨h1,e,rfl,k⟩:=h a q d;rw[Prod.mk.injEq]at b;obtain⟨rfl,rfl⟩:=b;exact⟨h1,by rw[e];rfl,rfl,k⟩
theorem Up.ret{α:Type}{h:Hp}(k:Good h)(a:α):Up (some (a,h)) (some (a,pk h)):=by
 intro b p c;rw[Option.some.injEq,Prod.mk.injEq]at c;exact⟨h,by rw[c.1],c.2,k⟩
theorem Up1.ret{h:Hp}(k:Good h):Up1 (some h) (some (pk h)):=fun p a=>⟨h,rfl,Option.some.inj a,k⟩
theorem Up1.then{x:Option Hp}{y:Option Pk}{f:Hp->Hp}{g:Pk->Option Pk}(h:Up1 x y)(hf: ∀h1,Good h1->Up1 (some (f h1)) (g (pk h1))):Up1 (x.map f) (y.bind g):=by
 intro p l;obtain⟨q,a,b⟩:=Option.bind_eq_some_iff.1 l;obtain⟨h1,c,rfl,k⟩:=h q a;obtain⟨d,e,i,j⟩:=hf h1 k p b;exact⟨d,by rw[c];exact e,i,j⟩
def D7(p:Pk)(t:List Nat):Nat:=((AJ p 3).find? (oC p t)).getD 0
def vY(p:Pk)(t:List Nat):Nat:=((AJ p 4).find? (xH p t)).getD 0
theorem El{h:Hp}(k:Good h){t:List Nat}(ht:B8 t):D7 (pk h) t=ek h t:=by
 unfold D7 ek;rw[sT k,show oC (pk h) t=bT h t from funext (pM k ht)]
theorem A5{h:Hp}(k:Good h){t:List Nat}(ht:B8 t):vY (pk h) t=fL h t:=by
 unfold vY fL;rw[sT k,show xH (pk h) t=dO h t from funext (Bb k ht)]
def jr(p:Pk)(t:List Nat):Option (Nat×Pk):=
 if D7 p t=0 then(Cl p (rd p.R 18) t).bind fun x=>(yh x.2 3 x.1).map fun c=>(x.1,c)else some (D7 p t,p)
theorem jG{h:Hp}(k:Good h){t:List Nat}(ht:B8 t)(e:t.length<=262140):Up (bY h t) (jr (pk h) t):=by
 unfold bY jr;rw[El k ht,c8 k];by_cases h0:ek h t=0
 ·simp only[if_pos h0];exact(Eo k _ ht e).bind fun a h1 c=>(xt c 3 a).map a
 ·simp only[if_neg h0];exact Up.ret k _
def Ax(p:Pk)(t:List Nat)(v:Nat):Option (Nat×Pk):=
 if vY p t=0 then(jr p t).bind fun x=>(mo x.2 (rd x.2.R 23) 1 2).bind fun a=>(gz a.2 a.1 0 x.1).bind fun h1=>(gz h1 a.1 1 v).bind fun c=>(yh c 4 a.1).map fun e=>(a.1,e)else none
theorem E7{h:Hp}(k:Good h){t:List Nat}(ht:B8 t)(s:t.length<=262140)(v:Nat):Up (dD h t v) (Ax (pk h) t v):=by
 unfold dD Ax;rw[A5 k ht];by_cases h0:fL h t=0
 ·simp only[if_pos h0];refine(jG k ht s).bind fun a h1 c=>?_
  simp only[c8 c];refine(kN c _ _ _).bind fun b j l=>?_
  show Up ((some (putF j b 0 a)).bind fun e=>(some (putF e b 1 v)).bind fun f=>(jJ f 4 b).map fun o=>(b,o)) _
  exact(du l _ _ _).bind fun e q=>(du q _ _ _).bind fun f r=>(xt r 4 b).map b
 ·simp only[if_neg h0];intro a p g;cases g
def okT(t:List Nat):Bool:=t.all (fun x=>decide (x<256))&&decide (t.length<=262140)
theorem dU{t:List Nat}(h:okT t=true):B8 t/\t.length<=262140:=by
 unfold okT at h;simp only[Bool.and_eq_true,decide_eq_true_eq,List.all_eq_true]at h;exact h
def oE:Nat->List fA->Pk->Option Pk
 |_,[],h=>some h
 |i,p :: t,h=>(jr h p.name).bind fun s=>(gz s.2 (rd s.2.R (10+i)) 0 s.1).bind fun x=>(Ax x p.name (rd s.2.R (10+i))).bind fun x=>oE (i+1) t x.2
theorem pf: ∀(l:List fA) (i:Nat) (h:Hp),Good h->l.all (fun p=>okT p.name)=true->Up1 (dt i l h) (oE i l (pk h))
 |[],_,h,k,_=>Up1.ret k
 |p :: t,i,h,k,hl=>by
  simp only[List.all_cons,Bool.and_eq_true]at hl;obtain⟨b,l⟩:=dU hl.1;refine(jG k b l).ag fun a h1 e=>?_
  simp only[c8 e];show Up1 ((some (putF h1 (wd h1.rt (10+i)) 0 a)).bind fun x=>(dD x p.name (wd h1.rt (10+i))).bind fun x=>dt (i+1) t x.2) _
  exact(du e _ _ _).ag fun m f=>(E7 f b l _).ag fun c g j=>pf t (i+1) g j hl.2
def sB:Nat->List (List Nat)->Pk->Option Pk
 |_,[],h=>some h
 |i,p :: t,h=>(jr h p).bind fun s=>(gz s.2 (rd s.2.R 8) i s.1).bind fun x=>sB (i+1) t x
theorem qT: ∀(l:List (List Nat)) (i:Nat) (h:Hp),Good h->l.all okT=true->Up1 (dV i l h) (sB i l (pk h))
 |[],_,h,k,_=>Up1.ret k
 |p :: t,i,h,k,hl=>by
  simp only[List.all_cons,Bool.and_eq_true]at hl;obtain⟨b,l⟩:=dU hl.1;refine(jG k b l).ag fun a h1 c=>?_
  simp only[c8 c];show Up1 ((some (putF h1 (wd h1.rt 8) i a)).bind fun x=>dV (i+1) t x) _
  exact(du c _ _ _).ag fun e f=>qT t (i+1) e f hl.2
def kc:List (List Nat)->Pk->Option (List Nat×Pk)
 |[],h=>some ([],h)
 |s :: t,h=>(jr h s).bind fun x=>(kc t x.2).map fun y=>(x.1 :: y.1,y.2)
theorem kH: ∀(l:List (List Nat)) (h:Hp),Good h->l.all okT=true->Up (bR l h) (kc l (pk h))
 |[],h,k,_=>Up.ret k _
 |p :: t,h,k,hl=>by
  simp only[List.all_cons,Bool.and_eq_true]at hl;obtain⟨b,l⟩:=dU hl.1;exact(jG k b l).bind fun a h1 c=>(kH t h1 c hl.2).map (fun y=>a :: y)
def rZ(a:Nat):Nat->List Nat->Pk->Option Pk
 |_,[],h=>some h
 |i,v :: t,h=>(gz h a i v).bind fun x=>rZ a (i+1) t x
theorem pT(a:Nat): ∀(l:List Nat) (i:Nat) (h:Hp),Good h->Up1 (some (aY a i l h)) (rZ a i l (pk h))
 |[],_,h,k=>Up1.ret k
 |v :: t,i,h,k=>by
  show Up1 ((some (putF h a i v)).bind fun x=>some (aY a (i+1) t x)) _
  exact(du k _ _ _).ag fun c e=>pT a t (i+1) c e
def Ez(h:Pk)(c:Nat)(fs:List (List Nat)):Option Pk:=
 (kc fs h).bind fun x=>(mo x.2 (rd x.2.R 20) 1 fs.length).bind fun a=>(rZ a.1 0 x.1 a.2).bind fun y=>gz y c 3 a.1
theorem DX{h:Hp}(k:Good h)(c:Nat)(fs:List (List Nat))(q:fs.all okT=true):Up1 (kf h c fs) (Ez (pk h) c fs):=by
 refine(kH fs h k q).ag fun l h1 f=>?_
 simp only[c8 f]
 have e:((aW h1 (wd h1.rt 20) 1 fs.length).map fun a=>putF (aY a.1 0 l a.2) c 3 a.1)=(aW h1 (wd h1.rt 20) 1 fs.length).bind fun a=>(some (aY a.1 0 l a.2)).bind fun y=>some (putF y c 3 a.1):=by
  cases aW h1 (wd h1.rt 20) 1 fs.length<;>rfl
 rw[e];exact(kN f _ _ _).ag fun a g j=>(pT a l 0 g j).ag fun r o=>du o _ _ _
def gU:Nat->List fA->Pk->Option Pk
 |_,[],h=>some h
 |i,p :: t,h=>if p.fields=[]then gU (i+1) t h else(Ez h (rd h.R (10+i)) p.fields).bind (gU (i+1) t)
theorem j5: ∀(l:List fA) (i:Nat) (h:Hp),Good h->l.all (fun p=>p.fields.all okT)=true->Up1 (bo i l h) (gU i l (pk h))
 |[],_,h,k,_=>Up1.ret k
 |p :: t,i,h,k,hl=>by
  simp only[List.all_cons,Bool.and_eq_true]at hl;unfold bo gU;by_cases h0:p.fields=[]
  ·rw[if_pos h0,if_pos h0];exact j5 t (i+1) h k hl.2
  ·rw[if_neg h0,if_neg h0,c8 k];exact(DX k _ _ hl.1).ag fun a c=>j5 t (i+1) a c hl.2
end Go.Proofs.YtfefijlnbhbplaaGreatDoor.Limb
namespace Go.Proofs.YtfefijlnbhbplaaGreatDoor
open Go Go.RowKit
variable {P:Program} {ops:Array Oper} {C:World->Prop} {Q:Act->Prop} {a:Act} {o:Oper} {rest:List Oper}
theorem kC(d:Tmp)(v:Value)(b:o.dst=some d)(c:Region.wanted o (yielded ops a.tmps)=true)(e: ∀w,C w->o.quietAt P a C w v)(h:wpQuiet P ops C Q rest (a.put (some d) v)):wpQuiet P ops C Q (o :: rest) a:=by
 unfold wpQuiet;rw[if_pos c];exact⟨v,e,by rw[b];exact h⟩
theorem qa{d:Tmp}{b:Act}(v:Value)(h:wpQuiet P ops C Q rest b)(c:o.dst=some d:=by rfl)(e:Region.wanted o (yielded ops a.tmps)=true:=by kernel_rfl)(f: ∀w,C w->o.quietAt P a C w v:=by intro Y i;go_simp)(g:b=a.put (some d) v:=by simp only[Act.put,zA,zB,zC];rfl):wpQuiet P ops C Q (o :: rest) a:=kC d v c e f (by rw[<-g];exact h)
theorem vl(d:Tmp)(b:o.dst=some d)(c:Region.wanted o (yielded ops a.tmps)=false)(h:wpQuiet P ops C Q rest (a.put (some d) undef)):wpQuiet P ops C Q (o :: rest) a:=by
 unfold wpQuiet;rw[if_neg (by rw[c];decide),b];exact h
theorem bH{id:Nat}{Q:Exit->Act->World->Prop}{a:Act}{w:World}(C:World->Prop)(hm:P.follows .mixedOrders=true)(hB:Region.lexB .any ops=true)(hC:C {w with drawn:=w.drawn+1})(h:wpQuiet P ops C (fun a'=> ∀w',C w'->Q .normal a' w') ops.toList a):(Code.region id ops true).wp P Q a w:=wp_region_quiet hm hB hC h
theorem jH{W:World}{p i:Nat}{t:TypeId}{d:List Value}{v:Value}(r:Row W p t d)(f:d[i]? =some v):W.setCell ⟨p,i,none⟩ v=W:=by
 unfold Row at r;have g:i<d.length:=(List.getElem?_eq_some_iff.1 f).1
 have b:d.set i v=d:=by
  apply List.ext_getElem?;intro j;rw[List.getElem?_set];by_cases c:i=j
  ·subst c;rw[if_pos rfl,if_pos g,f]
  ·rw[if_neg c]
 have e:(W.setCell ⟨p,i,none⟩ v).heap=W.heap:=by
  apply Array.ext_getElem?;intro j;simp only[World.setCell,Array.getElem?_modify];by_cases c:p=j
  ·subst c;simp[r,b]
  ·simp[c]
 show{W with heap:=(W.setCell ⟨p,i,none⟩ v).heap}=W
 rw[e]
end Go.Proofs.YtfefijlnbhbplaaGreatDoor
namespace Go.Proofs.YtfefijlnbhbplaaGreatDoor.Limb
theorem oq: ∀(l:List Nat) (x j:Nat),wd (aU (l++[x])) j=wd (aU l) j+if j=l.length/4 then x*256^(l.length%4)else 0
 |[],x,j=>by
  cases j with
  |zero=>simp[aU,wd]
  |succ j=>simp[aU,wd]
 |[a],x,j=>by
  cases j with
  |zero=>simp[aU,wd];omega
  |succ j=>simp[aU,wd]
 |[a,b],x,j=>by
  cases j with
  |zero=>simp[aU,wd];omega
  |succ j=>simp[aU,wd]
 |[a,b,c],x,j=>by
  cases j with
  |zero=>simp[aU,wd];omega
  |succ j=>simp[aU,wd]
 |a :: b :: c :: d :: t,x,j=>by
  have f:(a :: b :: c :: d :: t).length/4=t.length/4+1:=(by simp only[List.length_cons];omega);have i:(a :: b :: c :: d :: t).length%4=t.length%4:=by simp only[List.length_cons];omega
  rw[f,i];cases j with
  |zero=>
   rw[if_neg ω];rfl
  |succ j=>
   have:=oq t x j;show wd (aU (t++[x])) j=wd (aU t) j+_
   rw[this];by_cases h:j=t.length/4
   ·rw[if_pos h,if_pos ω]
   ·rw[if_neg h,if_neg ω]
theorem og: ∀l:List Nat,B8 l->wd (aU l) (l.length/4)<256^(l.length%4)
 |[],_=>by simp[aU,wd]
 |[a],h=>by simp[aU,wd];exact h.head
 |[a,b],h=>by simp[aU,wd];have:=h.head;have:=h.tail.head;omega
 |[a,b,c],h=>by simp[aU,wd];have:=h.head;have:=h.tail.head;have:=h.tail.tail.head;omega
 |a :: b :: c :: d :: t,h=>by
  have f:(a :: b :: c :: d :: t).length/4=t.length/4+1:=(by simp only[List.length_cons];omega);have i:(a :: b :: c :: d :: t).length%4=t.length%4:=by simp only[List.length_cons];omega
  rw[f,i];exact og t h.tail.tail.tail.tail
def f9(t:List Nat)(k:Nat):List Nat:=(List.range ((t.length+3)/4)).map fun j=>wd (aU (t.take k)) j
theorem co(t:List Nat)(k:Nat):(f9 t k).length=(t.length+3)/4:=by unfold f9;simp
theorem fR{t:List Nat}{k j:Nat}(a:j<(t.length+3)/4):wd (f9 t k) j=wd (aU (t.take k)) j:=by
 unfold f9;rw[wd_lt (by simpa using a)];simp
theorem uw(t:List Nat):f9 t 0=List.replicate ((t.length+3)/4) 0:=by
 refine dX (by rw[co];simp) fun i a=>?_
 rw[co]at a;rw[fR a,cF];simp[aU,wd]
theorem vI(t:List Nat){k:Nat}(b:t.length<=k):f9 t k=aU t:=by
 refine dX (by rw[co,ct]) fun i a=>?_
 rw[co]at a;rw[fR a,List.take_of_length_le b]
theorem uI{t:List Nat}(ht:B8 t){k:Nat}(m:k<t.length):k/4<(t.length+3)/4/\wd (f9 t k) (k/4)<256^(k%4)/\f9 t (k+1)=(f9 t k).set (k/4) (wd (f9 t k) (k/4)+wd t k*256^(k%4)):=by
 have a:k/4<(t.length+3)/4:=ω
 have c:(t.take k).length=k:=by rw[List.length_take];omega
 have f:B8 (t.take k):=fun x j=>ht x (List.mem_of_mem_take j)
 have d:=og _ f;rw[c]at d;refine⟨a,by rw[fR a];exact d,?_⟩;refine dX (by rw[List.length_set,co,co]) fun i b=>?_
 rw[co]at b;rw[cm (by rw[co];exact a),fR b,fR b,fR a,iz m,oq,c];by_cases e:i=k/4
 ·rw[if_pos e,if_pos e,e]
 ·rw[if_neg e,if_neg e,Nat.add_zero]
def IsRoot(x s:Nat):Prop:=s*s<=x/\x<(s+1)*(s+1)
theorem FI{a b:Nat}(h:a<=b):a*a<=b*b:=Nat.mul_le_mul h h
theorem BI{a b:Nat}(h:a*a<(b+1)*(b+1)):a<=b:=by
 refine Classical.byContradiction fun c=>?_
 have:=FI (show b+1<=a by omega);omega
theorem IsRoot.le{x s t:Nat}(h:IsRoot x s)(k:t*t<=x):t<=s:=BI (Nat.lt_of_le_of_lt k h.2)
end Go.Proofs.YtfefijlnbhbplaaGreatDoor.Limb

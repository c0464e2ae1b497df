/- Walks and laws that LargeData asks for. -/
import Derived.Test.YtfefijlnbhbplaaGreatDoorGX00
import Derived.Test.YtfefijlnbhbplaaGreatDoorChecked
set_option linter.unusedVariables false
set_option linter.unusedSimpArgs false
set_option maxRecDepth 1000000
set_option maxHeartbeats 6400000
namespace Go.Proofs.YtfefijlnbhbplaaGreatDoor
open Go Lib Go.RowKit Limb Tryz
theorem aK(W:World):(sizeOf 25).run prog W= .ok 1 W:=κ
theorem qA{l:List Nat}(k:Nat)(a:k<l.length)(h:val (l.take (k+1))=val l)(h0:wd l k=0):val (l.take k)=val l:=by
 rw[<-h,dm a,h0];simp
theorem li{l:List Nat}(a:Lim l)(k:Nat)(b:k<=l.length)(h:val (l.take k)=val l)(h0:k=0∨wd l (k-1)≠0):(rep (val l)).length=k:=by
 apply Nat.le_antisymm
 ·rw[rep_length_le,<-h];have:=cC (a.take k);rwa [List.length_take,Nat.min_eq_left b]at this
 ·rcases h0 with h0|h0
  ·omega
  ·rcases Nat.eq_zero_or_pos k with hz|hz
   ·omega
   ·obtain⟨j,rfl⟩: ∃j,k=j+1:=⟨k-1,ω⟩
    have:W j<=val l:=by
     rw[<-h,dm ω];rw[Nat.add_sub_cancel]at h0;have:=Nat.mul_le_mul_left (W j) (show 1<=wd l j by omega);omega
    have:=rep_length_lt.2 this;omega
theorem dA(w:World)(a:Option Addr)(l:List Nat)(n cap:Nat)(p:Lay .u32 w a l)(f:Lim l)(z:n=l.length)(M:n<=9223372036854775807)(O:n<=cap):Calls prog 224 #[.slice a n cap] w fun e w'=>e= .returned (.slice a (rep (val l)).length cap)/\w=w':=by
 obtain⟨b,m,j,d,L⟩:=p.use 192 25 underlying192 aK cap;rw[<-z]at j d;have q:=hid z;clear z;have E:=hid j;clear j;have F:=hid d;clear d;go_enter func224,ntmps224;go_wp2;go_loop[3] (fun i=> ∃k:Nat,k<=n/\i= .int .i64 k/\val (l.take k)=val l) (fun i=>(intOf i).toNat);case atStart=>exact⟨n,Nat.le_refl _,rfl,by rw[q.out,List.take_length]⟩
 case round=>
  obtain⟨k,C,rfl,D⟩:=hrel;have v:=hid D;clear D;by_cases h0:k=0
  ·have G:decide (0<k)=false:=(by simp[h0]);have x:Hid ((rep (val l)).length=k):=li f k (by rw[<-q.out];exact C) v.out (.inl h0);clear h0;go_wp2;go_ret;exact⟨by rw[x.out];rfl,rfl⟩
  ·have H:=E.out w .i64 ((k:Int)-1) ω ω;have A:m+((k:Int)-1).toNat=m+(k-1):=ω
   have I:=F.out w (Below.refl _ _) (k-1) ω;rw[A]at H;have B:0<k:=ω
   have G:decide (0<k)=true:=(by simp;omega);clear A;by_cases u:wd l (k-1)=0
   ·have y:(((wd l (k-1):Nat):Int)==0)=true:=(by simp[u]);clear h0;go_wp2;go_round;case rel=>exact⟨k-1,ω,by go_num,by rw[<-qA (k-1) (by rw[<-q.out];omega) (by rw[show k-1+1=k from by omega];exact v.out) u]⟩
    case measure=>exact μ
   ·have y:(((wd l (k-1):Nat):Int)==0)=false:=(by simp;omega);have x:Hid ((rep (val l)).length=k):=li f k (by rw[<-q.out];exact C) v.out (.inr u);clear h0 u;go_wp2;go_ret;exact⟨by rw[x.out];rfl,rfl⟩
theorem ee(w:World)(a:Option Addr)(l:List Nat)(n cap:Nat)(j:Int)(g:Lay .u32 w a l)(k:Lim l)(m:n=l.length)(h0:0<=j)(h1:j<=9223372036854775807):Calls prog 227 #[.slice a n cap,I j] w fun e w'=>e= .returned (.int .u64 (wd l j.toNat:Nat))/\w=w':=by
 obtain⟨b,q,f,d,v⟩:=g.use 192 25 underlying192 aK cap;obtain⟨i,rfl⟩:=Int.eq_ofNat_of_zero_le h0;rw[Int.toNat_natCast];by_cases h:i<l.length
 ·have p:=f w .i64 i ω ω;have r:=d w (Below.refl _ _) i h;have u:=k.wd i;rw[Int.toNat_natCast]at p;clear f d;rw[<-m]at*
  clear m;go_enter func227,ntmps227;go_wp2;go_ret;exact⟨rfl,rfl⟩
 ·have o:=eR (show l.length<=i by omega);rw[o];clear f d o;rw[<-m]at*
  clear m;go_enter func227,ntmps227;go_wp2;go_ret;exact⟨rfl,rfl⟩
theorem bz:(prog.info? 25).map (fun i=>(i.zero,i.size,i.bytes))=some (some (.int .u32 0),1,4):=κ
def rX(w w':World)(e:Ending)(n C:Nat):Prop:=
 ∃a cap,e= .returned (.slice a (rep n).length cap)/\(rep n).length<=cap/\cap<=C/\Lay .u32 w' a (rep n)/\Below w w w'
def lW(w w':World)(e:Ending)(n:Nat):Prop:=rX w w' e n 4398046511104
theorem Bf{xs ys zs:List Nat}{k c:Nat}(d:k<zs.length)(f:Lim zs)(i:c<=1)(j:Lim xs)(l:Lim ys)(h:val (zs.take k)+c*W k=val (xs.take k)+val (ys.take k)):val ((zs.set k ((c+(wd xs k+wd ys k))%4294967296)).take (k+1))+((c+(wd xs k+wd ys k))/4294967296)*W (k+1)=val (xs.take (k+1))+val (ys.take (k+1)):=by
 rw[bK _ d,aN xs,aN ys,bP];have b:=Nat.div_add_mod (c+(wd xs k+wd ys k)) 4294967296
 have:W k*(c+(wd xs k+wd ys k))=W k*((c+(wd xs k+wd ys k))%4294967296)+(c+(wd xs k+wd ys k))/4294967296*(4294967296*W k):=by
  conv=>lhs;rw[<-b]
  rw[Nat.mul_add,Nat.mul_comm 4294967296 (_/_),Nat.mul_left_comm,Nat.mul_comm 4294967296 (W k),Nat.add_comm]
 have g:W k*(c+(wd xs k+wd ys k))=c*W k+(W k*wd xs k+W k*wd ys k):=by rw[Nat.mul_add,Nat.mul_add,Nat.mul_comm c]
 omega
theorem Ef(w:World)(a b:Option Addr)(xs ys:List Nat)(ca cb:Nat)(ha:Lay .u32 w a xs)(hb:Lay .u32 w b ys)(V:Lim xs)(X:Lim ys)(lx:xs.length<=1099511627776)(ly:ys.length<=1099511627776):Calls prog 251 #[.slice a xs.length ca,.slice b ys.length cb] w fun e w'=>lW w w' e (val xs+val ys):=by
 obtain⟨n,L,M,a1,R⟩: ∃n,xs.length<=n/\ys.length<=n/\n<=1099511627776/\∀(T:Array TypeId) (t:TypeId) (W:World),
   (Builtin.max_ T t #[.int .i64 xs.length,.int .i64 ys.length]).run prog W= .ok (.int .i64 n) W:=by
  refine⟨max xs.length ys.length,ω,ω,ω,fun T t W=>?_⟩;rw[run_max_int2];by_cases h:xs.length<ys.length
  ·rw[if_pos ω,Nat.max_eq_right ω]
  ·rw[if_neg ω,Nat.max_eq_left ω]
 go_enter func251,ntmps251;go_wp2_with(at_make;refine aI rfl _ _ _ rfl 25 (.int .u32 0) 4 underlying192 bz rfl _ _ _ _ (n+1) (n+1) rfl rfl (by simp) (by simp) ω ω ω ?_;intro w1 g C a2 D E);go_loopw[7,18] (fun c i U=> ∃(k j:Nat) (zs:List Nat),k<=n/\i= .int .i64 k/\c= .int .u64 j/\j<=1/\zs.length=n+1/\Lim zs/\Row U g 25 (aC .u32 zs)/\val (zs.take k)+j*W k=val (xs.take k)+val (ys.take k)/\Below w.heap.size w U) (fun _ i _=>n-(intOf i).toNat);case atStart=>exact⟨0,0,List.replicate (n+1) 0,ω,rfl,rfl,ω,by simp,Lim.replicate _ δ,by rw[aG];exact D,by simp[val],E⟩
 case round=>
  obtain⟨k,j,zs,hk,rfl,rfl,O,A,f,B,S,v⟩:=hrel;have Y:=ha.below v;have Z:=hb.below v;have h1:=V.wd k;have h2:=X.wd k;have d:=hid A;clear A;have P:=hid S;clear S;have q:=B.free;by_cases a0:k<n
  ·have x:=B.cell (i:=k) (by rw[d.out];omega);have F:=q k;clear q;go_wp2_with(go_at_call 227;refine(ee _ _ _ _ _ _ (by assumption) (by assumption) rfl ω ω).mono ?_;rw[Int.toNat_natCast];rintro e w' ⟨rfl,rfl⟩);go_roundw
   case rel=>exact⟨k+1,(j+(wd xs k+wd ys k))/4294967296,zs.set k ((j+(wd xs k+wd ys k))%4294967296),ω,by go_num,by go_num,ω,by rw[List.length_set,d.out],
    f.set ω,B.store _ _ _ ω,Bf (by rw[d.out];omega) f O V X P.out,aw v C _⟩
   case measure=>exact μ
  ·obtain rfl:k=n:=ω
   have x:=B.cell (i:=k) (by rw[d.out];omega);have F:=q k;have G:=B.store k j j rfl;have H:=G.lay;have p:Lim (zs.set k j):=f.set ω
   have y:Hid (val (zs.set k j)=val xs+val ys):=by
    have Q:=P.out;rw[List.take_of_length_le L,List.take_of_length_le M]at Q;unfold Hid;rw[ta _ d.out,Nat.mul_comm];exact Q
   have I:=aw v (i:=k) C (.int .u32 j);clear q;go_wp2_with(go_at_call 224;refine(dA _ _ (zs.set k j) _ _ (by assumption) (by assumption) (by rw[List.length_set,d.out]) ω ω).mono ?_;rintro e w' ⟨rfl,rfl⟩);go_ret;rw[<-y.out];have z:=aQ p;rw[List.length_set,d.out]at z;exact⟨_,_,rfl,z,ω,H.norm p,I⟩
theorem pS{xs ys zs:List Nat}{k c:Nat}(g:k<zs.length)(j:c<=1)(l:wd xs k<4294967296)(m:wd ys k<4294967296)(h:val (zs.take k)+val (ys.take k)=val (xs.take k)+c*W k):val ((zs.set k ((wd xs k+4294967296-wd ys k-c)%4294967296)).take (k+1))+val (ys.take (k+1))=val (xs.take (k+1))+(if wd xs k<wd ys k+c then 1 else 0)*W (k+1):=by
 rw[bK _ g,aN xs,aN ys,bP]
 have b:(wd xs k+4294967296-wd ys k-c)%4294967296+wd ys k+c=wd xs k+(if wd xs k<wd ys k+c then 1 else 0)*4294967296:=by
  split<;>omega
 have d:=congrArg (fun t=>W k*t) b;simp only[Nat.mul_add]at d
 have f:W k*((if wd xs k<wd ys k+c then 1 else 0)*4294967296)=(if wd xs k<wd ys k+c then 1 else 0)*(4294967296*W k):=by
  rw[Nat.mul_comm,Nat.mul_assoc]
 rw[f]at d;have i:W k*c=c*W k:=Nat.mul_comm _ _;omega
theorem kE(x y c:Nat)(a:x<4294967296)(b:y<4294967296)(d:c<=1):IntKind.u64.wrap (IntKind.u64.wrap ((x:Int)-(y:Int))-(c:Int))/9223372036854775808=((if x<y+c then 1 else 0:Nat):Int):=by
 rw[IntKind.wrap_u64,IntKind.wrap_u64];split<;>omega
theorem rC(x y c:Nat)(a:x<4294967296)(b:y<4294967296)(d:c<=1):IntKind.u64.wrap (IntKind.u64.wrap ((x:Int)-(y:Int))-(c:Int))%4294967296=(((x+4294967296-y-c)%4294967296:Nat):Int):=by
 rw[IntKind.wrap_u64,IntKind.wrap_u64];omega
theorem ur{xs ys zs:List Nat}{n c:Nat}(b:Lim zs)(a:zs.length=n)(d:xs.length=n)(e:ys.length<=n)(f:val ys<=val xs)(h:val (zs.take n)+val (ys.take n)=val (xs.take n)+c*W n):val zs=val xs-val ys:=by
 rw[List.take_of_length_le ω,List.take_of_length_le ω,List.take_of_length_le ω]at h;have:=cC b;rw[a]at this;cases c with
 |zero=>omega
 |succ c=>rw[Nat.add_mul]at h;omega
theorem Cy(w:World)(a b:Option Addr)(xs ys:List Nat)(n m ca cb:Nat)(ha:Lay .u32 w a xs)(hb:Lay .u32 w b ys)(hx:Lim xs)(hy:Lim ys)(hn:n=xs.length)(hm:m=ys.length)(ln:n<=1099511627776)(hle:val ys<=val xs)(hmn:m<=n):Calls prog 268 #[.slice a n ca,.slice b m cb] w fun e w'=>lW w w' e (val xs-val ys):=by
 obtain⟨b1,off1,hix,hcx,_⟩:=ha.use 192 25 underlying192 aK ca;rw[<-hn]at hix hcx;have Hn:=hid hn;clear hn;have Hm:=hid hm;clear hm;have HX:=hid hix;clear hix;have HCX:=hid hcx;clear hcx;go_enter func268,ntmps268;go_wp2_with(at_make;refine aI rfl _ _ _ rfl 25 (Ψ 0) 4 underlying192 bz rfl _ _ _ _ n n rfl rfl rfl rfl ω ω ω ?_;intro w1 g hg1 hg2 hrow hbel);go_loopw[6,14] (fun c i wr=> ∃(k cc:Nat) (zs:List Nat),k<=n/\i= .int .i64 k/\c= .int .u64 cc/\cc<=1/\zs.length=n/\Lim zs/\Row wr g 25 (aC .u32 zs)/\val (zs.take k)+val (ys.take k)=val (xs.take k)+cc*W k/\Below w w wr) (fun _ i _=>n-(intOf i).toNat);case atStart=>exact⟨0,0,List.replicate n 0,ω,rfl,rfl,ω,by simp,Lim.replicate _ δ,by rw[aG];exact hrow,by simp[val],hbel⟩
 case round=>
  obtain⟨k,cc,zs,hk,rfl,rfl,hc1,hzl,hzlim,hr,hv,hbl⟩:=hrel;have h1:=hx.wd k;have h2:=hy.wd k;have Hzl:=hid hzl;clear hzl;have Hv:=hid hv;clear hv;by_cases hlt:k<n
  ·have hcell:=hr.cell (i:=k) (by rw[Hzl.out];omega);have hfk:=hr.free k;have ix:=fun q=>HX.out (wr.drewN q) .i64 k ω ω
   simp only[Int.toNat_natCast]at ix;have cx:wr.cell? ⟨b1,off1+k,none⟩=O (Ψ (wd xs k:Nat)):=HCX.out wr hbl k hlt;have hyb:=hb.below hbl;go_wp2;go_quiet ((go_at_call 227;exact Calls.quiet_of_same ((ee _ _ _ _ _ _ (hyb.drewN _) hy Hm.out ω ω).mono (fun e w' h=>⟨h.1,h.2.symm⟩))));go_wp2;go_roundw
   case rel=>exact⟨k+1,if wd xs k<wd ys k+cc then 1 else 0,zs.set k ((wd xs k+4294967296-wd ys k-cc)%4294967296),ω,by go_num,by rw[kE _ _ _ h1 h2 hc1],by split<;>omega,by rw[List.length_set,Hzl.out],
    hzlim.set ω,(hr.drewN _).store _ _ _ (rC _ _ _ h1 h2 hc1),pS (by rw[Hzl.out];exact hlt) hc1 h1 h2 Hv.out,aw (below_drewN hbl _) hg1 _⟩
   case measure=>exact μ
  ·obtain rfl:k=n:=ω
   have hl2:=hr.lay;have hle2:=aQ hzlim;have hval:=hid (ur hzlim Hzl.out (by rw[Hn.out]) (by rw[<-Hm.out];exact hmn) hle Hv.out);clear h1 h2;go_wp2_with(go_at_call 224;refine(dA _ _ zs _ _ (by assumption) (by assumption) (by rw[Hzl.out]) ω ω).mono ?_;rintro e w' ⟨rfl,rfl⟩);go_ret;rw[Hzl.out]at hle2;rw[<-hval.out];exact⟨_,_,rfl,hle2,ω,hl2.norm hzlim,hbl⟩
end Go.Proofs.YtfefijlnbhbplaaGreatDoor

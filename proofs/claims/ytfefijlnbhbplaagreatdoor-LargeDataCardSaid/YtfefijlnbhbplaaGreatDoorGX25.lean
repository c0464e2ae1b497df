/- Walks and laws that LargeData asks for. -/
import Derived.Test.YtfefijlnbhbplaaGreatDoorGX21
import Derived.Test.YtfefijlnbhbplaaGreatDoorGX19
set_option linter.unusedVariables false
set_option linter.unusedSimpArgs false
set_option maxRecDepth 1000000
set_option maxHeartbeats 6400000
namespace Go.Proofs.YtfefijlnbhbplaaGreatDoor
open Go Lib Go.RowKit Limb Tryz
def ez(z:Int):Bool:=decide (-9223372036854775808<=z)&&decide (z<=9223372036854775807)
theorem dK{z:Int}:ez z=true↔ -9223372036854775808<=z/\z<=9223372036854775807:=by unfold ez;simp
theorem xu{n:Nat}(h:(rep n).length<=2):val (rep n)%18446744073709551616=n:=by
 rw[aE];have h1:=rep_length_le.1 h;rw[show Limb.W 2=18446744073709551616 from by decide]at h1;omega
theorem tV{z:Int}(h:2<(rep z.natAbs).length):ez z=false:=by
 have h1:=rep_length_lt.1 h;rw[show Limb.W 2=18446744073709551616 from by decide]at h1;rw[Bool.eq_false_iff,Ne,dK];omega
theorem Av{z:Int}(h:ez z=true):(rep z.natAbs).length<=2:=by
 rw[dK]at h;exact xQ h.1 h.2
theorem v8(w:World)(q:Nat)(z:Int)(F:IntAt w q z)(hs:(rep z.natAbs).length<=68719476736):Calls prog 177 #[E q] w fun e w'=>e= .returned (.bool (ez z))/\w=w':=by
 obtain⟨b,a,n,cap,A,p,G,v,d⟩:=F.use;obtain⟨H,c1⟩:=d w (Only.refl _ _);clear d;rw[<-p.out]at hs;by_cases j:2<n
 ·have B:decide (2<n)=true:=decide_eq_true j;have r:decide ((2:Int)<(n:Int))=true:=dT;have i:=hid (tV (z:=z) (by rw[<-p.out];exact j));clear j v;go_enter func177,ntmps177;go_wp2;go_ret;rw[i.out];exact⟨rfl,rfl⟩
 ·have B:decide (2<n)=false:=decide_eq_false j;have r:decide ((2:Int)<(n:Int))=false:=dF;have c:=lg w a (rep z.natAbs) n cap v (aB _) p.out ω;rw[xu (by rw[<-p.out];omega)]at c;obtain⟨N,x⟩:=ξ z.natAbs;rw[<-x]at c;have k:=hid c;have m:=hid x;clear c v j x;by_cases f:N<9223372036854775808
  ·have C:decide ((N:Int)<9223372036854775808)=true:=dT;have s:decide (N<9223372036854775808)=true:=decide_eq_true f;have i:=hid (show ez z=true by rw[dK];have:=m.out;omega);clear f;go_enter func177,ntmps177;go_wp2_with fail;refine k.out.mono ?_;rintro e w1 ⟨rfl,rfl⟩;go_wp2;go_ret;rw[i.out];exact⟨rfl,rfl⟩
  ·have C:decide ((N:Int)<9223372036854775808)=false:=dF;have s:decide (N<9223372036854775808)=false:=decide_eq_false f;cases b with
   |false=>
    have i:=hid (show ez z=false by
     rw[Bool.eq_false_iff,Ne,dK];have h1:=m.out;have u:=of_decide_eq_false A.out.symm;omega)
    clear f;go_enter func177,ntmps177;go_wp2_with fail;refine k.out.mono ?_;rintro e w1 ⟨rfl,rfl⟩;go_wp2;go_ret;rw[i.out];exact⟨rfl,rfl⟩
   |true=>
    have u:=of_decide_eq_true A.out.symm;by_cases y:N=9223372036854775808
    ·have D:((N:Int)==9223372036854775808)=true:=(by rw[beq_iff_eq];omega);have i:=hid (show ez z=true by rw[dK];have:=m.out;omega);clear f y u;go_enter func177,ntmps177;go_wp2_with fail;refine k.out.mono ?_;rintro e w1 ⟨rfl,rfl⟩;go_wp2;go_ret;rw[i.out];exact⟨rfl,rfl⟩
    ·have D:((N:Int)==9223372036854775808)=false:=nE
     have i:=hid (show ez z=false by
      rw[Bool.eq_false_iff,Ne,dK];have h1:=m.out;omega)
     clear f y u;go_enter func177,ntmps177;go_wp2_with fail;refine k.out.mono ?_;rintro e w1 ⟨rfl,rfl⟩;go_wp2;go_ret;rw[i.out];exact⟨rfl,rfl⟩
theorem ye{n:Nat}(h:n<=9223372036854775808):IntKind.i64.wrap (IntKind.u64.wrap (-(n:Int)))= -(n:Int):=by
 simp[IntKind.wrap,IntKind.bits,IntKind.signed];omega
theorem xB{n:Nat}(h:n<9223372036854775808):IntKind.i64.wrap (n:Int)=(n:Int):=by
 simp[IntKind.wrap,IntKind.bits,IntKind.signed];omega
theorem zJ(w:World)(q:Nat)(z:Int)(r:IntAt w q z)(g:ez z=true):Calls prog 178 #[E q] w fun e w'=>e= .returned (I z)/\w=w':=by
 obtain⟨b,a,n,cap,m,j,s,o,d⟩:=r.use;obtain⟨t,c1⟩:=d w (Only.refl _ _);clear d;have f:n<=2:=by rw[j.out];exact Av g
 have c:=lg w a (rep z.natAbs) n cap o (aB _) j.out ω;rw[xu (by rw[<-j.out];exact f)]at c;obtain⟨N,k⟩:=ξ z.natAbs;rw[<-k]at c;rw[dK]at g;have l:=hid c;clear c o;cases b with
 |true=>
  have i:=of_decide_eq_true m.out.symm;have p:IntKind.i64.wrap (IntKind.u64.wrap (-(N:Int)))=z:=by rw[ye ω];omega
  clear i k g f;go_enter func178,ntmps178;go_wp2_with fail;refine l.out.mono ?_;rintro e w1 ⟨rfl,rfl⟩;go_wp2;go_ret;exact⟨rfl,rfl⟩
 |false=>
  have i:=of_decide_eq_false m.out.symm;have p:IntKind.i64.wrap (N:Int)=z:=by rw[xB ω];omega
  clear i k g f;go_enter func178,ntmps178;go_wp2_with fail;refine l.out.mono ?_;rintro e w1 ⟨rfl,rfl⟩;go_wp2;go_ret;exact⟨rfl,rfl⟩
theorem wy(c:Bool)(n:Nat):(signed c n).natAbs=n:=by unfold signed;split<;>omega
def Dc(ok:Bool)(z:Int):Ending:=if ok=true then .returned (.tuple #[I z,I 0])else .returned (.tuple #[I 0,I 1])
theorem zV(w:World)(f:Bool)(a:Option Addr)(l:List Nat)(m cap:Nat)(u:Lay .u32 w a l)(j:Lim l)(H:m=l.length)(hl:m<=9223372036854775807):Calls prog 87 #[Ω f a m cap] w fun e w'=>e=Dc (bn f l&&ez (signed f (val l))) (signed f (val l))/\Below w w w':=by
 obtain⟨W,C,D,F,Q⟩: ∃W,W=w.alloc (.cells #[.bool f,.slice a m cap] 24)/\Row W w 24 [.bool f,.slice a m cap]/\Below w w W/\True:=⟨_,rfl,by unfold Row;exact heap_alloc_new _ _,(Below.refl _ _).alloc ι _,trivial⟩;have v:=hid C;clear C Q;have L:=dz W f a l m cap (u.below F) j H hl;obtain⟨z,G⟩:=ξ (signed f (val l));obtain⟨ok,q⟩:=ξ (bn f l);rw[<-q]at L;rw[<-q,<-G];have M:=hid L;clear L;obtain⟨A,c1⟩:=D.two;cases ok with
 |false=>
  clear q G j H;go_enter func87,ntmps87;go_wp2_with fail;rw[<-v.out];refine M.out.mono ?_;rintro e w1 ⟨rfl,hb1⟩;(try dsimp only);have k:=τ F hb1;go_wp2_with fail;go_ret2;exact⟨rfl,k⟩
 |true=>
  have S:m<=1024:=(by rw[H];exact(bQ j q.symm).2.2);have T:(rep z.natAbs).length<=68719476736:=by rw[G,wy];exact Nat.le_trans (aQ j) ω
  have x:=fun(w1:World) (hb:Below W.heap.size W w1)=>db (At.refl w1) f a l m cap (u.below (τ F hb)) j H ω
  rw[<-G]at x;have y:=hid x;clear x;clear q G j H
  cases hin:ez z with
  |false=>
   have N:=hid (fun X p (h:IntAt X p z)=>show Calls prog 177 #[E p] X (fun e w'=>e= .returned (.bool false)/\X=w')from by have h1:=v8 X p z h T;rwa [hin]at h1);clear hin;go_enter func87,ntmps87;go_wp2_with fail;rw[<-v.out];refine M.out.mono ?_;rintro e w1 ⟨rfl,hb1⟩;(try dsimp only);have k:=τ F hb1;have B:=D.below hb1 D.lt;clear A c1;obtain⟨A,c1⟩:=B.two;go_wp2_with fail;refine(y.out w1 hb1).mono ?_;rintro e I ⟨p,rfl,h2⟩;(try dsimp only);have r:=k.trans (h2.below.mono k.size);go_wp2_with fail;refine(N.out I p (h2.ints _ (.head _)).1).mono ?_;rintro e R ⟨rfl,rfl⟩;(try dsimp only);go_wp2_with fail;go_ret2;exact⟨rfl,r⟩
  |true=>
   have N:=hid (fun X p (h:IntAt X p z)=>show Calls prog 177 #[E p] X (fun e w'=>e= .returned (.bool true)/\X=w')from by have h1:=v8 X p z h T;rwa [hin]at h1);have U:=hid (fun X p (h:IntAt X p z)=>zJ X p z h hin);clear hin;go_enter func87,ntmps87;go_wp2_with fail;rw[<-v.out];refine M.out.mono ?_;rintro e w1 ⟨rfl,hb1⟩;(try dsimp only);have k:=τ F hb1;have B:=D.below hb1 D.lt;clear A c1;obtain⟨A,c1⟩:=B.two;go_wp2_with fail;refine(y.out w1 hb1).mono ?_;rintro e I ⟨p,rfl,h2⟩;(try dsimp only);have r:=k.trans (h2.below.mono k.size);have V:=B.below h2.below B.lt;clear A c1;obtain⟨A,c1⟩:=V.two;have O:=hb1.trans (h2.below.mono hb1.size);go_wp2_with fail;refine(N.out I p (h2.ints _ (.head _)).1).mono ?_;rintro e R ⟨rfl,rfl⟩;(try dsimp only);go_wp2_with fail;refine(y.out I O).mono ?_;rintro e Y ⟨p3,rfl,h3⟩;(try dsimp only);have P:=r.trans (h3.below.mono r.size);go_wp2_with fail;refine(U.out Y p3 (h3.ints _ (.head _)).1).mono ?_;rintro e Z ⟨rfl,rfl⟩;(try dsimp only);go_wp2_with fail;go_ret2;exact⟨rfl,P⟩
set_option linter.unusedSectionVars false
variable [Old]
def Off(g:Nat)(a:Option Addr):Prop:= ∀b c,a=some ⟨b,c,none⟩->b≠g/\Old.top<=b
theorem Fresh.off{w:World}{a:Option Addr}{g:Nat}(h:Fresh w a)(d:g<w.heap.size)(f:Old.top<=w.heap.size):Off g a:=fun b c e=>by have:=h b c e;omega
theorem Lay.off{K:IntKind}{w:World}{a:Option Addr}{l:List Nat}{g i:Nat}(h:Lay K w a l)(f:Off g a)(v:Value):Lay K (w.setCell ⟨g,i,none⟩ v) a l:=
 h.only (ps:=[g]) ((Only.refl [g] w).setCell (by simp) v) (fun _ b c e d=>(f b c e).1 (by simpa using d))
def De(w w':World)(e:Ending)(Q R:Nat):Prop:=
 ∃a n c b d f,e=Rt #[.slice a n c,.slice b d f]/\n=(rep Q).length/\d=(rep R).length/\CapB Old.top a n c/\CapB Old.top b d f/\Lay .u32 w' a (rep Q)/\Lay .u32 w' b (rep R)/\Below w w w'
theorem qD(w:World)(a b:Option Addr)(A B n m ca cb:Nat)(ha:Lay .u32 w a (rep A))(hb:Lay .u32 w b (rep B))(hn:n=(rep A).length)(hm:m=(rep B).length)(ln:n<=1073741824)(lm:m<=1073741824)(hB:0<B)(ho:Old.top<=w.heap.size):Calls prog 206 #[.slice a n ca,.slice b m cb] w fun e w'=>De w w' e (A/B) (A%B):=by
 have hA:A<2^(32*n):=by have:=cK A;rw[<-hn,dj]at this;exact this
 have HS:=hid (PInv.start (n:=n) hB hA);clear hA;have HO:=hid ho;clear ho;have Hn:=hid hn;clear hn;have Hm:=hid hm;clear hm;have a0:=fun W (a b:Option Addr) (xs ys:List Nat) (n m ca cb M:Nat) ha hb hx hy hn hm ln lm lM=>ol W a b xs ys n m ca cb M ha hb hx hy hn hm ln lm lM
 have HPl:=hid a0;clear a0;go_enter func206,ntmps206;go_wp2_with(at_make;refine aI rfl _ _ _ rfl 25 (Ψ 0) 4 underlying22 bz rfl _ _ _ _ n n rfl rfl rfl rfl ω ω ω ?_;intro w1 g hg1 hg2 hrow hbel);go_loopw[7,8] (fun rv i wr=> ∃(k r nr cr:Nat) (ar:Option Addr) (qs:List Nat),k<=32*n/\rv= .slice ar nr cr/\i= .int .i64 ((k:Int)-1)/\Hid (nr=(rep r).length)/\nr<=cr/\nr<=m/\Lay .u32 wr ar (rep r)/\Hid (Off g ar)/\Hid (qs.length=n)/\Lim qs/\Row wr g 25 (aC .u32 qs)/\Hid (PInv A B k qs r)/\Below w w wr) (fun _ i _=>(intOf i+1).toNat);case atStart=>exact⟨32*n,0,0,0,none,List.replicate n 0,ω,rfl,by go_num,hid rfl,ω,ω,Lay.nil _ _ _,hid (fun b off e=>by cases e),hid (by simp),Lim.replicate _ δ,by rw[aG];exact hrow,HS.out,hbel⟩
 case round=>
  obtain⟨k,r,nr,cr,ar,qs,hk,rfl,rfl,Hnr,hcr,hrm,har,Hoff,I,f,hr,HP,Y⟩:=hrel;clear hrow hbel HS;by_cases h0:k=0
  ·subst h0;obtain⟨e1,e2⟩:=HP.out.done;have Hq:=hid e1;clear e1;have Hr:=hid e2;clear e2;have U:=hr.lay;have hle2:=aQ f;go_wp2_with(go_at_call 209;refine(ir _ _ qs _ _ (by assumption) (by assumption) (by rw[I.out]) ω ω).mono ?_;rintro e w' ⟨rfl,rfl⟩);go_ret2;rw[I.out]at hle2;rw[<-Hq.out,<-Hr.out];exact⟨_,_,_,_,_,_,rfl,rfl,Hnr.out,CapB.new hle2 (Nat.le_trans HO.out hg1),⟨hcr,fun b off e=>(Hoff.out b off e).2⟩,U.norm f,har,Y⟩
  ·obtain⟨j,rfl⟩: ∃j,k=j+1:=⟨k-1,ω⟩;have hj:((j+1:Nat):Int)-1=(j:Int):=ω
   rw[hj];clear hj h0;obtain⟨d,hd⟩:=ξ (j/32);obtain⟨s,hs⟩:=ξ (j%32);have e1:(j:Int)/32=d:=ω
   have e2:(j:Int)%32=s:=ω;have L:d<n:=ω
   have s_lt:s<32:=ω;obtain⟨sb1,Z,sb3⟩:=Ed f (by rw[<-hd,I.out];exact L) HP.out.low;rw[<-hd,<-hs]at sb1 Z sb3;have eor:=Df s_lt sb1 Z;obtain⟨p,hp⟩:=ξ (2^s);have ep:(2:Int)^s=(p:Int):=by rw[hp,Int.natCast_pow];rfl
   have epl:p<4294967296:=(by rw[<-hp]at Z;omega);rw[<-hp]at Z sb3 eor;have Sb:=hid sb3;clear sb3 hd hs hp sb1;have hbB:=hb.below Y;have haA:=ha.below Y;go_wp2_with fail;refine(HPl.out wr ar ar (rep r) (rep r) nr nr cr cr m har har (aB _) (aB _) Hnr.out Hnr.out hrm hrm ω).mono ?_;rw[aE];rintro e w2 ⟨a2,n2,c2,zs2,rfl,hn2,hc2,hm2,U,hv2,hla2,hb2,hf2⟩;have Hn2:=hid hn2;clear hn2;have Hv2:=hid hv2;clear hv2;have O:=Y.trans (hb2.mono Y.size);have hgw:=hr.lt;have hr2:=hr.below hb2 hgw;have hgw2:=hr2.lt;have Hoff2:=hid (hf2.off hgw (Nat.le_trans HO.out Y.size));clear hf2;go_wp2_with fail;refine(DC w2 a (rep A) n ca j (haA.below hb2) (aB _) Hn.out ω ω).mono ?_;rw[aE];rintro e w2' ⟨rfl,rfl⟩;have X:A/2^j%2=0∨A/2^j%2=1:=ω
   obtain⟨bt,hbtv⟩:=ξ (A/2^j%2);have HP':=HP.out.great (qs':=qs.set d (wd qs d+p));have a1:=HP.out.small;rw[<-hbtv]at X HP' a1 ⊢;have HPg:=hid HP';clear HP';have HPs:=hid a1;clear a1 HP;clear hbtv;rcases X with X|X
   ·have qb:((bt:Nat):Int)=0:=ω;subst X;clear qb;have a4:Hid (val zs2=r+r+0):=hid (by rw[Hv2.out];rfl);have u:=ir w2 a2 zs2 n2 c2 hla2 U Hn2.out ω hc2;have y:=hla2.norm U;have E:=aQ U;rw[<-Hn2.out]at E;rw[a4.out]at u y E;have HC:=hid u;clear u;obtain⟨x,hx⟩:=ξ (r+r+0);rw[<-hx]at HC y E HPg HPs;have Hx:=hid hx;clear hx a4;obtain⟨nx,R⟩:=ξ ((rep x).length);rw[<-R]at HC E;have z:=hid R;clear R;go_wp2_with fail;refine HC.out.mono ?_;rintro e w4 ⟨rfl,rfl⟩;go_wp2_with fail;refine(fV w2 a2 b (rep x) (rep B) nx m c2 cb y (hbB.below hb2) (aB _) (aB _) (bh _) (bh _) z.out Hm.out ω ω).mono ?_;rw[aE,aE];rintro e w5 ⟨rfl,q,rfl⟩;by_cases F:B<=x
    ·have cv:=l5 F;obtain⟨v,hv⟩:=ξ (cX x B);rw[<-hv]at cv ⊢;clear hv;have a5:=y.drewN q;have a7:=(hbB.below hb2).drewN q;have G:=hr2.drewN q;obtain⟨V,hV⟩:=ξ (w2.drewN q);have C:Below w w V:=by rw[hV];exact below_drewN O q
     rw[<-hV]at a5 a7 G ⊢;clear hV;have hmx:m<=nx:=by rw[Hm.out,z.out];exact aS F
     have HG:=hid (HPg.out F Sb.out);have H:(rep (x-B)).length<=m:=by rw[Hm.out];exact aS (Nat.le_of_lt HG.out.lt)
     go_wp2_with fail;refine(oa V a2 b (rep x) (rep B) nx m c2 cb a5 a7 (aB _) (aB _) z.out Hm.out ω (by rw[aE,aE];exact F) hmx).mono ?_;rw[aE,aE];rintro e w6 ⟨a6,c6,rfl,hc6,hl6,hb6,hf6⟩;have Q:=G.below hb6 G.lt;have a8:=C.trans (hb6.mono C.size);have D:=hid (hf6.off G.lt (Nat.le_trans HO.out C.size));clear hf6;obtain⟨n6,S⟩:=ξ ((rep (x-B)).length);rw[<-S]at hc6 H ⊢;have Hn6:=hid S;clear S;have hcell:=Q.cell (i:=d) (by rw[I.out];exact L);have hfk:=Q.free d;have ig:=aX (P:=prog) underlying22 aK g n n .i64 (d:Int) d rfl L;have ep1:(1:Int)*2^s=(p:Int):=by rw[Int.one_mul];exact ep
     go_wp2;go_roundw;case rel=>exact⟨j,x-B,n6,c6,a6,qs.set d (wd qs d+p),ω,rfl,rfl,hid Hn6.out,hc6,H,hl6.off D.out _,hid D.out,hid (by rw[List.length_set,I.out]),f.set Z,Q.store _ _ _ rfl,hid HG.out,aw a8 hg1 _⟩
     case measure=>first |(simp[intOf];done)|(simp[intOf];omega)
    ·have cv:=kW (show x<B by omega);obtain⟨v,hv⟩:=ξ (cX x B);rw[<-hv]at cv ⊢;clear hv;have HG:=hid (HPs.out ω);have H:nx<=m:=by rw[Hm.out,z.out];exact aS ω
     go_wp2;go_roundw;case rel=>exact⟨j,x,nx,c2,a2,qs,ω,rfl,rfl,hid z.out,ω,H,y.drewN q,hid Hoff2.out,hid I.out,f,hr2.drewN q,hid HG.out,below_drewN O q⟩
     case measure=>first |(simp[intOf];done)|(simp[intOf];omega)
   ·subst X;have h1:=kO w2 25 .u32 1 1 rfl;have hbA:Below w2 w2 (w2.alloc (.cells #[Ψ 1] 25)):=(Below.refl _ _).alloc ι _;go_wp2_with fail;refine(HPl.out _ a2 _ zs2 [1] n2 1 c2 1 (m+1) (hla2.below hbA) h1 U (Lim.cons δ Lim.nil) Hn2.out rfl hm2 ω ω).mono ?_;rintro e w3 ⟨a3,n3,c3,zs3,rfl,hn3,hc3,hm3,hl3,hv3,hla3,hb3,hf3⟩;have Hn3:=hid hn3;clear hn3;have Hv3:Hid (val zs3=r+r+1):=hid (by rw[hv3,Hv2.out];rfl);clear hv3;have T:=hbA.trans (hb3.mono hbA.size);have hbl3:=O.trans (T.mono O.size);have hr3:=hr2.below T hgw2;have hgw3:=hr3.lt;have Hoff3:=hid (hf3.off (show g<_ by rw[World.size_alloc];omega) (Nat.le_trans HO.out (Nat.le_trans O.size (by rw[World.size_alloc];omega))));clear hf3 h1 hbA hb3;have a4:Hid (val zs3=r+r+1):=hid Hv3.out;have u:=ir w3 a3 zs3 n3 c3 hla3 hl3 Hn3.out ω hc3;have y:=hla3.norm hl3;have E:=aQ hl3;rw[<-Hn3.out]at E;rw[a4.out]at u y E;have HC:=hid u;clear u;obtain⟨x,hx⟩:=ξ (r+r+1);rw[<-hx]at HC y E HPg HPs;have Hx:=hid hx;clear hx a4;obtain⟨nx,R⟩:=ξ ((rep x).length);rw[<-R]at HC E;have z:=hid R;clear R;go_wp2_with fail;refine HC.out.mono ?_;rintro e w4 ⟨rfl,rfl⟩;go_wp2_with fail;refine(fV w3 a3 b (rep x) (rep B) nx m c3 cb y (hbB.below (hb2.trans (T.mono hb2.size))) (aB _) (aB _) (bh _) (bh _) z.out Hm.out ω ω).mono ?_;rw[aE,aE];rintro e w5 ⟨rfl,q,rfl⟩;by_cases F:B<=x
    ·have cv:=l5 F;obtain⟨v,hv⟩:=ξ (cX x B);rw[<-hv]at cv ⊢;clear hv;have a5:=y.drewN q;have a7:=(hbB.below (hb2.trans (T.mono hb2.size))).drewN q;have G:=hr3.drewN q;obtain⟨V,hV⟩:=ξ (w3.drewN q);have C:Below w w V:=by rw[hV];exact below_drewN hbl3 q
     rw[<-hV]at a5 a7 G ⊢;clear hV;have hmx:m<=nx:=by rw[Hm.out,z.out];exact aS F
     have HG:=hid (HPg.out F Sb.out);have H:(rep (x-B)).length<=m:=by rw[Hm.out];exact aS (Nat.le_of_lt HG.out.lt)
     go_wp2_with fail;refine(oa V a3 b (rep x) (rep B) nx m c3 cb a5 a7 (aB _) (aB _) z.out Hm.out ω (by rw[aE,aE];exact F) hmx).mono ?_;rw[aE,aE];rintro e w6 ⟨a6,c6,rfl,hc6,hl6,hb6,hf6⟩;have Q:=G.below hb6 G.lt;have a8:=C.trans (hb6.mono C.size);have D:=hid (hf6.off G.lt (Nat.le_trans HO.out C.size));clear hf6;obtain⟨n6,S⟩:=ξ ((rep (x-B)).length);rw[<-S]at hc6 H ⊢;have Hn6:=hid S;clear S;have hcell:=Q.cell (i:=d) (by rw[I.out];exact L);have hfk:=Q.free d;have ig:=aX (P:=prog) underlying22 aK g n n .i64 (d:Int) d rfl L;have ep1:(1:Int)*2^s=(p:Int):=by rw[Int.one_mul];exact ep
     go_wp2;go_roundw;case rel=>exact⟨j,x-B,n6,c6,a6,qs.set d (wd qs d+p),ω,rfl,rfl,hid Hn6.out,hc6,H,hl6.off D.out _,hid D.out,hid (by rw[List.length_set,I.out]),f.set Z,Q.store _ _ _ rfl,hid HG.out,aw a8 hg1 _⟩
     case measure=>first |(simp[intOf];done)|(simp[intOf];omega)
    ·have cv:=kW (show x<B by omega);obtain⟨v,hv⟩:=ξ (cX x B);rw[<-hv]at cv ⊢;clear hv;have HG:=hid (HPs.out ω);have H:nx<=m:=by rw[Hm.out,z.out];exact aS ω
     go_wp2;go_roundw;case rel=>exact⟨j,x,nx,c3,a3,qs,ω,rfl,rfl,hid z.out,ω,H,y.drewN q,hid Hoff3.out,hid I.out,f,hr3.drewN q,hid HG.out,below_drewN hbl3 q⟩
     case measure=>first |(simp[intOf];done)|(simp[intOf];omega)
end Go.Proofs.YtfefijlnbhbplaaGreatDoor
namespace Go.Proofs.YtfefijlnbhbplaaGreatDoor
open Go Go.RowKit Limb
def DivAnswer(ok fl:Bool)(w w':World)(e:Ending)(b a:Int):Prop:=
 if ok=false then nk w w' e 1 else if a=0 then nk w w' e 90 else Ay w w' e (fb fl b a) (fE fl b a)
theorem DivAnswer.shape{ok fl:Bool}{w w':World}{e:Ending}{o p:Int}(h:DivAnswer ok fl w w' e o p): ∃b a n c A B C D k,e=Rt #[Ω b a n c,Ω A B C D,I k]/\Below w w w'/\(∀f g,Below f.heap.size f g->(∀x l,Lay .u32 w' x l->Lay .u32 g x l)->f.heap.size<=w.heap.size->DivAnswer ok fl f g e o p):=by
 unfold DivAnswer at h;split at h
 ·rename_i h0;obtain⟨i,rfl⟩:=h;exact⟨_,_,_,_,_,_,_,_,_,rfl,i,fun f g d _ _=>by unfold DivAnswer;rw[if_pos h0];exact⟨d,rfl⟩⟩
 ·rename_i h0;split at h
  ·rename_i h1;obtain⟨i,rfl⟩:=h;exact⟨_,_,_,_,_,_,_,_,_,rfl,i,fun f g d _ _=>by unfold DivAnswer;rw[if_neg h0,if_pos h1];exact⟨d,rfl⟩⟩
  ·rename_i h1;obtain⟨i,q,r,s,t,rfl,u,v,y,z⟩:=h;exact⟨_,_,_,_,_,_,_,_,_,rfl,i,fun f g d m j=>by unfold DivAnswer;rw[if_neg h0,if_neg h1];exact⟨d,q,r,s,t,rfl,u.mono j,v.mono j,m _ _ y,m _ _ z⟩⟩
open Lib Tryz
theorem yW(w:World)(a:Option Addr)(c:Nat)(b:Int):Calls prog 172 #[.slice a 0 c,I b] w fun e w'=>(∃s,e= .returned (.string s)/\s.data.toList=([48]:List Nat).map UInt8.ofNat)/\Below w w w':=by
 go_enter func172,ntmps172;go_wp2;go_ret;exact⟨⟨_,rfl,rfl⟩,Below.refl _ _⟩
theorem rh(w:World)(a:Option Addr)(n c N b:Nat)(k:Lay .u32 w a (rep N))(j:n=(rep N).length)(o:2<=b)(d:b<=36)(q:n<=68719476736):Calls prog 172 #[.slice a n c,I b] w fun e w'=>(∃s,e= .returned (.string s)/\s.data.toList=(txt b N).map UInt8.ofNat)/\Below w w w':=by
 by_cases f:N=0
 ·subst f;have:n=0:=j;subst this;exact yW w a c b
 ·exact B6 w a n c N b k j f o d q
def k7(b:Nat)(z:Int):List Nat:=if z<0 then 45 :: txt b z.natAbs else txt b z.natAbs
theorem vH{b:Nat}(a:2<=b)(N k:Nat)(h:N<2^k):(txt b N).length<=k+1:=by
 unfold txt;split
 ·simp
 ·have:=gB a N k h;simp;omega
theorem mQ{b:Nat}(a:2<=b)(N n:Nat)(c:n=(rep N).length):(txt b N).length<=32*n+1:=
 vH a N (32*n) (by have:=cK N;rw[<-c,dj]at this;exact this)
theorem CT(w:World)(p:Nat)(z:Int)(b:Nat)(L:IntAt w p z)(B:2<=b)(v:b<=36)(C:(rep z.natAbs).length<=68719476736):Calls prog 85 #[E p,I b] w fun e w'=>(∃s,e= .returned (.string s)/\s.data.toList=(k7 b z).map UInt8.ofNat)/\Below w w w':=by
 obtain⟨y,G,A,o,q,d,H,u,c⟩:=L.use;obtain⟨N,c1⟩:=c w (Only.refl _ _);clear c;rw[<-d.out]at C;have M:=mQ B z.natAbs A d.out;have j:=rh w G A o z.natAbs b u d.out B v C;have x:=hid j;clear j;by_cases f:z<0
 ·obtain rfl:y=true:=by rw[q.out];simpa using f
  have k:k7 b z=45 :: txt b z.natAbs:=(by unfold k7;rw[if_pos f]);rw[k];clear k f;go_enter func85,ntmps85;go_wp2_with fail;refine x.out.mono ?_;rintro e w1 ⟨⟨s,rfl,hs⟩,hb⟩
  have D:s.size<=9223372036854775806:=by
   rw[ByteArray.size,<-Array.length_toList,hs,List.length_map];omega
  have F:=hid hs;clear hs;go_wp2;go_ret;refine⟨⟨_,rfl,?_⟩,hb⟩;rw[List.map_cons,<-F.out];simp
 ·obtain rfl:y=false:=by rw[q.out];simpa using f
  have k:k7 b z=txt b z.natAbs:=(by unfold k7;rw[if_neg f]);rw[k];clear k f;go_enter func85,ntmps85;go_wp2_with fail;refine x.out.mono ?_;rintro e w1 ⟨⟨s,rfl,hs⟩,hb⟩;go_wp2;go_ret;exact⟨⟨s,rfl,hs⟩,hb⟩
def oO(b:Nat)(z:Int):List UInt8:=Lib.toUpperA ((k7 b z).map UInt8.ofNat)
theorem Az{b:Nat}(e:2<=b)(f:b<=36)(N:Nat): ∀x∈txt b N,x<128:=by
 unfold txt;split
 ·intro x a;simp at a;omega
 ·intro x a;obtain⟨d,c,rfl⟩:=List.mem_map.1 a;have:=xE e N d (List.mem_reverse.1 c);unfold sgn;split<;>omega
theorem Eb{b:Nat}(d:2<=b)(a:b<=36)(z:Int): ∀x∈k7 b z,x<128:=by
 unfold k7;split
 ·intro x c;rcases List.mem_cons.1 c with rfl|c
  ·omega
  ·exact Az d a _ x c
 ·exact Az d a _
theorem CX{l:List Nat}{s:ByteArray}(hs:s.data.toList=l.map UInt8.ofNat)(h: ∀x∈l,x<128): ∀(j:Nat) (c:UInt8),s.data.toList[j]? =some c->c.toNat<128:=by
 intro j c a;rw[hs,List.getElem?_map]at a
 cases hl:l[j]? with
 |none=>rw[hl]at a;cases a
 |some x=>
  rw[hl]at a;have:UInt8.ofNat x=c:=by simpa using a
  subst this;have:=h x (List.mem_of_getElem? hl);rw[UInt8.toNat_ofNat'];omega
theorem uU(c:Bool)(n:Nat):(signed c n).natAbs=n:=by unfold signed;split<;>omega
theorem j6(w:World)(d:Bool)(a:Option Addr)(l:List Nat)(n cap b:Nat)(y:Lay .u32 w a l)(f:Lim l)(F:n=l.length)(q:bn d l=true)(H:2<=b)(E:b<=36):Calls prog 33 #[Ω d a n cap,I b] w fun e w'=>(∃s,e=Rt #[.string s,I 0]/\s.data.toList=oO b (signed d (val l)))/\Below w w w':=by
 have L:n<=1024:=by rw[F];exact(bQ f q).2.2
 have j:=fun W (h:Below w w W)=>dz W d a l n cap (y.below h) f F ω
 rw[q]at j;have k:=fun W (h:Below w w W)=>p8 W d a l n cap (y.below h) f F ω
 have M:(rep (signed d (val l)).natAbs).length<=1024:=by
  rw[uU];exact Nat.le_trans (aQ f) ω
 have C:=fun W p (h:IntAt W p (signed d (val l)))=>CT W p (signed d (val l)) b h H E (Nat.le_trans M δ)
 have Q:=hid j;clear j;have N:=hid k;clear k;have O:=hid C;clear C
 have v:Hid (∀s:ByteArray,s.data.toList=(k7 b (signed d (val l))).map UInt8.ofNat->s.size<=140737488355328):=hid (fun s hs=>by
  rw[ByteArray.size,<-Array.length_toList,hs,List.length_map];have h:=mQ H (signed d (val l)).natAbs _ rfl;unfold k7;split
  ·rw[List.length_cons];omega
  ·omega)
 clear F q f M;obtain⟨z,P⟩:=ξ (signed d (val l));rw[<-P]at N O v ⊢;clear P;have R:decide (b<2)=false:=by rw[decide_eq_false_iff_not];omega
 have S:decide (36<b)=false:=by rw[decide_eq_false_iff_not];omega
 go_enter func33,ntmps33;go_wp2_with fail;have D:Below w w (w.alloc (.cells #[.bool d,.slice a n cap] 24)):=(Below.refl _ _).alloc ι _;have x:Row (w.alloc (.cells #[.bool d,.slice a n cap] 24)) w 24 [.bool d,.slice a n cap]:=by unfold Row;exact heap_alloc_new _ _
 refine(Q.out _ D).mono ?_;rintro e w1 ⟨rfl,hb1⟩;have u:Below w w w1:=τ D hb1;have B:=x.below hb1 x.lt;obtain⟨T,c1⟩:=B.two;go_wp2_with fail;refine(N.out _ u).mono ?_;rintro e U ⟨p,rfl,hpp,hp,hb2'⟩;go_wp2_with fail;refine(O.out _ p hp).mono ?_;rintro e V ⟨⟨s,rfl,hs⟩,hb3⟩;have G:=hid hs;clear hs;go_wp2_with fail;refine(strings_ToUpper_ascii s _ (v.out s G.out) (CX G.out (Eb H E z))).mono ?_;rintro e X ⟨rfl,hb4⟩;go_wp2;go_ret2;exact⟨⟨_,rfl,by rw[G.out];rfl⟩,((τ u hb2').trans (hb3.mono (by have:=u.size;have:=hb2'.size;omega))).trans (hb4.mono (by have:=u.size;have:=hb2'.size;have:=hb3.size;omega))⟩
local instance:Old:=⟨0⟩
inductive Sp where
 |any
 |eq (v:Value)
 |api (z:Int)
 |tup (z:Int)
 |box (B:Nat)
def Sp.at:Sp->Value->World->Prop
 | .any,_,_=>True
 | .eq v,u,_=>u=v
 | .api z,u,w=>ApiV w u z
 | .tup z,u,w=> ∃v,u= .tuple #[v,I 0]/\ApiV w v z
 | .box B,u,w=> ∃g,u= .pointer (some ⟨g,0,none⟩)/\B<=g/\Row w g 24 [.bool false,.slice none 0 0]
theorem Sp.below{s:Sp}{u:Value}{w w':World}(h:s.at u w)(a:Below w w w'):s.at u w':=by
 cases s with
 |any=>trivial
 |eq v=>exact h
 |api z=>exact ApiV.below h a
 |tup z=>obtain⟨v,e,h⟩:=h;exact⟨v,e,ApiV.below h a⟩
 |box B=>obtain⟨g,e,h1,b⟩:=h;exact⟨g,e,h1,b.below a b.lt⟩
def SpV(l:List Sp)(i:Nat)(v:Value)(w:World):Prop:=(l.getD i .any).at v w
theorem SpV.below{l:List Sp}: ∀i v w w',SpV l i v w->Below w.heap.size w w'->SpV l i v w':=fun _ _ _ _ h a=>Sp.below h a
section
variable {P:Program} {md:Region.Mode} {ops:Array Oper} {Q:Exit->Act->World->Prop} {S:World->Prop} {V:Nat->Value->World->Prop} {n i:Nat} {base:Act} {o:Oper}
def jB(P:Program)(k:FuncId):Bool:=((P.funcs[k]?).map fun b=>!(b.name== "runtime.NumGoroutine")&&!b.body.isNone).getD false
theorem wK{k:FuncId}(c:jB P k=true)(a:Array Value)(w:World):(callFunc k a).run P w= .ok (.enter k a) w:=by
 unfold jB at c
 cases hf:P.funcs[k]? with
 |none=>rw[hf]at c;cases c
 |some fn=>
  rw[hf]at c;simp only[Option.map_some,Option.getD_some,Bool.and_eq_true,Bool.not_eq_true']at c;obtain⟨h1,d⟩:=c
  cases hb:fn.body with
  |none=>rw[hb]at d;cases d
  |some b=>
   have h1: ¬fn.name= "runtime.NumGoroutine" :=(by simpa using h1);unfold callFunc;simp[go_sem,hf,h1,hb]
theorem yV{ρ:Operand->Value}{w:World}{x:Operand}{xs:Array Operand}{ts:Array TypeId}{k:FuncId}{cap:Array Value}(ho:o.op= .call {callee:= .value x,args:=xs,argTypes:=ts})(hx:ρ x= .func (.func k) #[] cap)(hk:jB P k=true):(execOp ρ o).run P w= .ok (.enter k (xs.map ρ++cap)) w:=by
 unfold execOp;rw[ho];simp only[resolve,hx,Deferred.ofValue];simp[invoke,wK hk]
end
section
variable {md:Region.Mode} {ops:Array Oper} {Q:Exit->Act->World->Prop} {S:World->Prop} {V:Nat->Value->World->Prop} {n i:Nat} {base:Act} {o:Oper}
end
end Go.Proofs.YtfefijlnbhbplaaGreatDoor
namespace Go.Proofs.YtfefijlnbhbplaaGreatDoor
open Go Lib Go.RowKit Limb Tryz
theorem pB{P:Program}{ops:Array Oper}{Q:Exit->Act->World->Prop}{K:Act->World->Prop}{i:Nat}{o:Oper}{a:Act}{w:World}{x:Operand}{xs:Array Operand}{ts:Array TypeId}{k:FuncId}{cap:Array Value}(hi:ops[i]? =some o)(hg:o.guard=none)(ho:o.op= .call {callee:= .value x,args:=xs,argTypes:=ts})(hx:a.eval x= .func (.func k) #[] cap)(hk:jB P k=true)(h:Calls P k (xs.map a.eval++cap) w fun e w'=> ∃v,e= .returned v/\K (a.put o.dst v) w'):wpOp P ops Q i K a w:=by
 refine cZ hi hg ?_;unfold Oper.wp;simp only[yV ho hx hk,Oper.upon];refine h.mono ?_;rintro e w' ⟨v,rfl,h1⟩;exact h1
theorem BJ(K:IntKind)(x:Nat):aC K [x]=[.int K (x:Nat)]:=rfl
theorem re{w:World}{B e s n:Nat}{v:Value}{xs:List Value}(h:w.ownsRow B e s v n xs):w.drew.ownsRow B e s v n xs:=h
theorem AP(w:World)(x y:Nat)(a:x<4294967296)(b:y<4294967296):Calls prog 245 #[Ψ (x:Nat),Ψ (y:Nat)] w fun e w'=>e= .returned (Ψ (bop 1 x y:Nat))/\w'=w:=by
 have c:=u32_and_nat x y a b;go_enter func245,ntmps245;go_wp2;go_ret;exact⟨rfl,rfl⟩
theorem Em(w:World)(x y:Nat)(a:x<4294967296)(b:y<4294967296):Calls prog 246 #[Ψ (x:Nat),Ψ (y:Nat)] w fun e w'=>e= .returned (Ψ (bop 2 x y:Nat))/\w'=w:=by
 have c:=u32_or_nat x y a b;go_enter func246,ntmps246;go_wp2;go_ret;exact⟨rfl,rfl⟩
theorem Bm(w:World)(x y:Nat)(a:x<4294967296)(b:y<4294967296):Calls prog 247 #[Ψ (x:Nat),Ψ (y:Nat)] w fun e w'=>e= .returned (Ψ (bop 3 x y:Nat))/\w'=w:=by
 have c:=u32_xor_nat x y a b;go_enter func247,ntmps247;go_wp2;go_ret;exact⟨rfl,rfl⟩
theorem vA{op:Nat}{xs ys:List Nat}{j:Nat}(h1:j<xs.length)(b:j<ys.length):(eO op xs ys).take (j+1)=(eO op xs ys).take j++[bop op (wd xs j) (wd ys j)]:=by
 rw[iz (by unfold eO;rw[List.length_zipWith];omega),ui h1 b]
theorem rM(w:World)(op:Nat)(g:FuncId)(hen:jB prog g=true)(hf: ∀(X:World) (x y:Nat),x<4294967296->y<4294967296->Calls prog g #[Ψ (x:Nat),Ψ (y:Nat)] X fun e X'=>e= .returned (Ψ (bop op x y:Nat))/\X'=X)(a b:Option Addr)(xs ys:List Nat)(n ca cb:Nat)(ha:Lay .u32 w a xs)(hb:Lay .u32 w b ys)(hx:Lim xs)(hy:Lim ys)(hn:n=xs.length)(hm:n=ys.length)(ln:n<=1099511627776):Calls prog 248 #[.slice a n ca,.slice b n cb,.func (.func g) #[] #[]] w fun e w'=> ∃v,e= .returned v/\w'.ownsRow w.heap.size 25 1 v n (aC .u32 (eO op xs ys))/\Below w.heap.size w w':=by
 obtain⟨i0,hi,hz0,hz1,hz2⟩:=info_parts bz;obtain⟨b1,off1,hix,hcx,_⟩:=ha.use 22 25 underlying22 aK ca;obtain⟨b2,off2,hiy,hcy,_⟩:=hb.use 22 25 underlying22 aK cb;rw[<-hn]at hix hcx;rw[<-hm]at hiy hcy;have Hn:=hid hn;clear hn;have Hm:=hid hm;clear hm;have HIX:=hid hix;clear hix;have HCX:=hid hcx;clear hcx;have HIY:=hid hiy;clear hiy;have HCY:=hid hcy;clear hcy;have hall:Hid ((eO op xs ys).take n=eO op xs ys):=hid (List.take_of_length_le (by rw[iu (by rw[<-Hn.out,<-Hm.out]),<-Hn.out];exact Nat.le_refl _));clear ha hb;go_enter func248,ntmps248;go_wp2;go_loopw[7,11] (fun lv i wr=> ∃j:Nat,j<=n/\i= .int .i64 j/\wr.ownsRow w.heap.size 25 1 lv j (aC .u32 ((eO op xs ys).take j))/\Below w.heap.size w wr) (fun _ i _=>n-(intOf i).toNat);case atStart=>exact⟨0,ω,rfl,World.ownsRow_nil _ _ _ _,Below.refl _ _⟩
 case round=>
  obtain⟨j,hj,rfl,hown,hB⟩:=hrel;by_cases hj1:j<n
  ·have Hst:=hid (vA (op:=op) (xs:=xs) (ys:=ys) (j:=j) (by rw[<-Hn.out];exact hj1) (by rw[<-Hm.out];exact hj1));go_upto_region 5 with fail
   have hX:Below w.heap.size w wr.drew:=hB.drew;have hown':=re hown;refine wp_region_held (S:=fun X=>Below w.heap.size w X) κ ?_;refine tk 0 (u7) ?_;refine tk 1 (.func (.func g) #[] #[]) ?_;refine tk 2 (.slice a n ca) ?_;refine tk 3 (I (j:Nat)) ?_;refine tk 4 (Θ b1 (off1+j)) ?_ (y:=fun X hX=>by have i1:=HIX.out X .i64 j ω ω;rw[Int.toNat_natCast]at i1;go_simp);refine tk 5 (Ψ (wd xs j:Nat)) ?_ (y:=fun X hX=>by have i1:=HCX.out X hX j hj1;go_simp);refine tk 6 (.slice b n cb) ?_;refine tk 7 (I (j:Nat)) ?_;refine tk 8 (Θ b2 (off2+j)) ?_ (y:=fun X hX=>by have i1:=HIY.out X .i64 j ω ω;rw[Int.toNat_natCast]at i1;go_simp);refine tk 9 (Ψ (wd ys j:Nat)) ?_ (y:=fun X hX=>by have i1:=HCY.out X hX j hj1;go_simp);refine wo 10 ?_;refine pB (k:=g) (cap:= #[]) rfl rfl rfl (by rfl) hen ?_;simp only[List.map_toArray,List.map_cons,List.map_nil,Array.append_empty];refine(hf _ (wd xs j) (wd ys j) (hx.wd j) (hy.wd j)).mono ?_;rintro e X1 ⟨rfl,rfl⟩;refine⟨_,rfl,hX,?_⟩;simp only[Act.put,zA,zB,zC];refine wo 11 ?_;have hs:=hX.size;replace hX:=hX.alloc hs (.cells #[Ψ (bop op (wd xs j) (wd ys j):Nat)] 25);replace hown':=hown'.alloc (.cells #[Ψ (bop op (wd xs j) (wd ys j):Nat)] 25);unfold wpOp;go_simp;refine .inl ⟨hX,?_⟩;refine wo 12 ?_;refine cZ rfl rfl ?_;refine wp_append_own _ (.tmp 14) (.tmp 25) 22 rfl w.heap.size 25 i0 (Ψ 0) 1 4 underlying22 hi hz0 hz1 hz2 rfl δ u7 j _ rfl hown' ⟨wr.heap.size,0,none⟩ 1 1 [Ψ (bop op (wd xs j) (wd ys j):Nat)] rfl rfl (cell_one_new _ _ _) (by simp[Value.oneCell']) (Nat.le_trans (show j+1<=1099511627777 by omega) δ) ω hX.size ?_;intro v' X3 hown2 hgr _;have hb2:=dh hown' hgr hX.size;replace hX:=hX.trans hb2;rw[<-BJ,<-bw]at hown2;refine⟨hX,?_⟩;simp only[Act.put,zA,zB,zC];refine tk 13 (v') ?_;refine wpAnyH_done κ ?_ _;go_wp2;go_roundw;case rel=>exact⟨j+1,ω,by go_num,by rw[Hst.out];exact hown2,hX⟩
   case measure=>exact μ
  ·obtain rfl:j=n:=ω
   rw[hall.out]at hown;go_wp2;go_ret;exact⟨_,rfl,hown,hB⟩
theorem EV{w1 X:World}{l:List (Nat×Int)}{p s:Nat}{z:Int}(h:At w1 X ((p,z) :: l))(hs:(rep z.natAbs).length<=68719476736)(c:s<=4294967296):Calls prog 191 #[E p,E p,.int .u64 s] X fun e b=>e= .returned (E p)/\At w1 b ((p,z*2^s) :: l):=by
 refine(DE X p p s z z (h.ints _ (.head _)).1 (h.ints _ (.head _)).1 hs c).mono ?_;rintro e b ⟨rfl,h1,h2⟩;exact⟨rfl,by have:=h.set (.head _) h2 h1;rwa [uM h.nd]at this⟩
theorem CV{w1 X:World}{l:List (Nat×Int)}{p s:Nat}{z:Int}(h:At w1 X ((p,z) :: l))(hs:(rep z.natAbs).length<=68719476736)(c:s<=4294967296):Calls prog 192 #[E p,E p,.int .u64 s] X fun e b=>e= .returned (E p)/\At w1 b ((p,z/2^s) :: l):=by
 refine(Dt X p p s z z (h.ints _ (.head _)).1 (h.ints _ (.head _)).1 hs c).mono ?_;rintro e b ⟨rfl,h1,h2⟩;exact⟨rfl,by have:=h.set (.head _) h2 h1;rwa [uM h.nd]at this⟩
def cf(x n:Int):Int:=if 0<=n then x*2^n.toNat else x/2^(-n).toNat
theorem sI{s k:Nat}(h:s<32*k):(rep ((2:Int)^s).natAbs).length<=k:=by
 rw[Int.natAbs_pow];refine rep_length_le.2 ?_;rw[dj];exact Nat.pow_lt_pow_right δ h
theorem y9(x:Int)(s:Nat):(x/2^s).natAbs<=x.natAbs:=by
 have c:(0:Int)<2^s:=Int.pow_pos δ;rcases Int.lt_or_le x 0 with h|h
 ·have h1:x<=x/2^s:=by
   rw[Int.le_ediv_iff_mul_le c];have d:(1:Int)<=2^s:=c;have e:=Int.mul_le_mul_of_nonpos_left (Int.le_of_lt h) d;omega
  have d:=Int.ediv_neg_of_neg_of_pos h c;omega
 ·have h1:=Int.ediv_nonneg h (Int.le_of_lt c);have d:=Int.ediv_le_self (2^s) h;omega
theorem Dj{x:Int}{c:Nat}(i:(rep x.natAbs).length<=c){s t:Nat}(hs:32*c<=s)(ht:32*c<=t):x/2^s=x/2^t:=by
 have f: ∀u,32*c<=u->x/2^u=if x<0 then -1 else 0:=by
  intro u k;have j:x.natAbs<2^u:=Nat.lt_of_lt_of_le (rep_length_le.1 i) (by rw[dj];exact Nat.pow_le_pow_right δ k);have e:((2:Int)^u)=((2^u:Nat):Int):=by rw[Int.natCast_pow];rfl
  rw[e];generalize 2^u=d at j ⊢;by_cases i:x<0
  ·rw[if_pos i];exact((Int.ediv_emod_unique (a:=x) (b:=(d:Int)) (q:= -1) (r:=x+d) ω).2 ⟨ω,ω,ω⟩).1
  ·rw[if_neg i];exact Int.ediv_eq_zero_of_lt ω ω
 rw[f s hs,f t ht]
end Go.Proofs.YtfefijlnbhbplaaGreatDoor

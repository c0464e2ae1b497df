/- Walks and laws that LargeData asks for. -/
import Derived.Test.YtfefijlnbhbplaaGreatDoorGX05
set_option linter.unusedVariables false
set_option linter.unusedSimpArgs false
set_option maxRecDepth 1000000
set_option maxHeartbeats 6400000
namespace Go.Proofs.YtfefijlnbhbplaaGreatDoor
open Go Lib Go.RowKit Limb Tryz
def fO(x y:Int):Int:=if x<y then -1 else if x=y then 0 else 1
theorem tw{x y:Int}(a:0<=x)(b:0<=y):cX x.natAbs y.natAbs=fO x y:=by
 unfold cX fO;split<;>split<;>(try split)<;>omega
theorem uq{x y:Int}(a:x<0)(b:y<0):cX y.natAbs x.natAbs=fO x y:=by
 unfold cX fO;split<;>split<;>(try split)<;>omega
theorem Di(w:World)(p q:Nat)(x y:Int)(hp:IntAt w p x)(hq:IntAt w q y)(hs:(rep x.natAbs).length<=68719476736)(ht:(rep y.natAbs).length<=68719476736):Calls prog 197 #[E p,E q] w fun e w'=>e= .returned (I (fO x y))/\∃n,w'=w.drewN n:=by
 obtain⟨G,z,H,j,u,B,Y,D,b⟩:=hp.use;obtain⟨L,A,M,k,v,C,Z,F,d⟩:=hq.use;obtain⟨T,c1⟩:=b w (Only.refl _ _);obtain⟨U,N⟩:=d w (Only.refl _ _);clear b d;rw[<-B.out]at hs;rw[<-C.out]at ht;by_cases o:x<0<;>by_cases r:y<0
 ·obtain rfl:G=true:=by rw[u.out];simpa using o
  obtain rfl:L=true:=by rw[v.out];simpa using r
  have a:=fun W (h1:Lay .u32 W z (rep x.natAbs)) (S:Lay .u32 W A (rep y.natAbs)) m=>df (W.drewN m) A z (rep y.natAbs) (rep x.natAbs) M H k j (S.drewN m) (h1.drewN m) (aB _) (aB _) (bh _) (bh _) C.out B.out ω ω
  simp only[aE,uq o r]at a;have O:=hid a;clear a o r;go_enter func197,ntmps197;go_wp2;go_quiet (fail);go_wp2;obtain⟨W,f⟩:=ξ (w.drewN nq);have P:Lay .u32 W z (rep x.natAbs):=by rw[f];exact D
  have Q:Lay .u32 W A (rep y.natAbs):=(by rw[f];exact F);have V:W.cell? ⟨p,1,none⟩=some (.slice z H j):=by rw[f];exact c1
  have X:W.cell? ⟨q,1,none⟩=some (.slice A M k):=(by rw[f];exact N);rw[<-f];have R:=hid f;clear f T c1 U N;go_quiet ((go_at_call 228;exact Calls.quiet_of (O.out W P Q _)));go_wp2;go_ret;exact⟨rfl,by rw[R.out];simp only[World.drewN_drewN];exact⟨_,rfl⟩⟩
 ·obtain rfl:G=true:=by rw[u.out];simpa using o
  obtain rfl:L=false:=by rw[v.out];simpa using r
  have e:fO x y= -1:=(by unfold fO;rw[if_pos ω]);rw[e];clear e o r;go_enter func197,ntmps197;go_wp2;go_quiet (fail);go_wp2;go_ret;exact⟨rfl,by first |exact⟨_,rfl⟩|(simp only[World.drewN_drewN];exact⟨_,rfl⟩)⟩
 ·obtain rfl:G=false:=by rw[u.out];simpa using o
  obtain rfl:L=true:=by rw[v.out];simpa using r
  have e:fO x y=1:=(by unfold fO;rw[if_neg ω,if_neg ω]);rw[e];clear e o r;go_enter func197,ntmps197;go_wp2;go_quiet (fail);go_wp2;go_ret;exact⟨rfl,by first |exact⟨_,rfl⟩|(simp only[World.drewN_drewN];exact⟨_,rfl⟩)⟩
 ·obtain rfl:G=false:=by rw[u.out];simpa using o
  obtain rfl:L=false:=by rw[v.out];simpa using r
  have a:=fun W (h1:Lay .u32 W z (rep x.natAbs)) (S:Lay .u32 W A (rep y.natAbs)) m=>df (W.drewN m) z A (rep x.natAbs) (rep y.natAbs) H M j k (h1.drewN m) (S.drewN m) (aB _) (aB _) (bh _) (bh _) B.out C.out ω ω
  simp only[aE,tw (Int.not_lt.1 o) (Int.not_lt.1 r)]at a;have O:=hid a;clear a o r;go_enter func197,ntmps197;go_wp2;go_quiet (fail);go_wp2;obtain⟨W,f⟩:=ξ (w.drewN nq);have P:Lay .u32 W z (rep x.natAbs):=by rw[f];exact D
  have Q:Lay .u32 W A (rep y.natAbs):=(by rw[f];exact F);have V:W.cell? ⟨p,1,none⟩=some (.slice z H j):=by rw[f];exact c1
  have X:W.cell? ⟨q,1,none⟩=some (.slice A M k):=(by rw[f];exact N);rw[<-f];have R:=hid f;clear f T c1 U N;go_quiet ((go_at_call 228;exact Calls.quiet_of (O.out W P Q _)));go_wp2;go_ret;exact⟨rfl,by rw[R.out];simp only[World.drewN_drewN];exact⟨_,rfl⟩⟩
def bI(o:Nat):Nat:=if o=0 then 0 else if o%2=1 then 1 else 2
theorem Dm(o:Nat)(a:o<4294967296):bits .and .u32 (o:Int) 1=((o%2:Nat):Int):=by
 rw[(φ:(1:Int)=((1:Nat):Int)),u32_and_nat o 1 a δ,nat_mask1]
theorem fY(w:World)(o:Nat)(b:o<4294967296):Calls prog 137 #[Ψ o] w fun e w'=>e= .returned (I (bI o))/\w=w':=by
 have a:=Dm o b;by_cases h0:o=0
 ·subst h0;clear a;go_enter func137,ntmps137;go_wp2;go_ret;exact⟨rfl,rfl⟩
 ·have f:((o:Int)==0)=false:=nE;have d:(o==0)=false:=nE
  by_cases h1:o%2=1
  ·have e:bI o=1:=(by unfold bI;rw[if_neg h0,if_pos h1]);rw[e];rw[h1]at a;clear h0 h1 e b;go_enter func137,ntmps137;go_wp2;go_ret;exact⟨rfl,rfl⟩
  ·have e:bI o=2:=(by unfold bI;rw[if_neg h0,if_neg h1]);have c:o%2=0:=ω
   rw[e];rw[c]at a;clear h0 h1 c e b;go_enter func137,ntmps137;go_wp2;go_ret;exact⟨rfl,rfl⟩
def mY(o:Nat):Nat:=if bI o=2 then o/2 else 0
def rG(o:Nat):Nat:=if bI o=2 then 0 else 3
theorem qJ(w:World)(o:Nat)(g:o<4294967296):Calls prog 210 #[Ψ o] w fun e w'=>e=Rt #[I (mY o),I (rG o)]/\w=w':=by
 have b:=fY w o g;have i:=hid (show((o/2:Nat):Int)=(o:Int)/2 from ω);by_cases a:bI o=2
 ·have c:mY o=o/2:=(by unfold mY;rw[if_pos a]);have d:rG o=0:=by unfold rG;rw[if_pos a]
  rw[a]at b;rw[c,d];have f:=hid b;clear b a c d;go_enter func210,ntmps210;go_wp2_with fail;refine f.out.mono ?_;rintro e w1 ⟨rfl,rfl⟩;go_wp2;go_ret2;exact⟨rfl,rfl⟩
 ·have c:mY o=0:=(by unfold mY;rw[if_neg a]);have d:rG o=3:=by unfold rG;rw[if_neg a]
  have q:(((bI o:Nat):Int) != 2)=true:=(by rw[bne_iff_ne];omega);have j:(((bI o:Nat):Int)==2)=false:=nE
  generalize bI o=k at*
  rw[c,d];have f:=hid b;clear b a c d;go_enter func210,ntmps210;go_wp2_with fail;refine f.out.mono ?_;rintro e w1 ⟨rfl,rfl⟩;go_wp2;go_ret2;exact⟨rfl,rfl⟩
theorem uO(w:World)(n:Int):Calls prog 88 #[I n] w fun e w'=>e= .returned (.bool (decide (-1073741824<=n)&&decide (n<=1073741823)))/\w=w':=by
 by_cases h1: -1073741824<=n
 ·have a:decide (-1073741824<=n)=true:=decide_eq_true h1;by_cases d:n<=1073741823
  ·have c:decide (n<=1073741823)=true:=decide_eq_true d;rw[a,c];go_enter func88,ntmps88;go_wp2;go_ret;exact⟨rfl,rfl⟩
  ·have c:decide (n<=1073741823)=false:=decide_eq_false d;rw[a,c];go_enter func88,ntmps88;go_wp2;go_ret;exact⟨rfl,rfl⟩
 ·have a:decide (-1073741824<=n)=false:=decide_eq_false h1;rw[a];go_enter func88,ntmps88;go_wp2;go_ret;exact⟨rfl,rfl⟩
theorem EI(w:World)(n:Nat)(h1:1<=n)(f:n<=2147483647):Calls prog 95 #[I n] w fun e w'=>e=Rt #[Ψ (2*n:Nat),I 0]/\w=w':=by
 have a:decide ((n:Int)<1)=false:=dF;have b:decide (2147483647<(n:Int))=false:=dF;have c:decide (2147483647<n)=false:=dF;have d:decide (n<1)=false:=dF;go_enter func95,ntmps95;go_wp2;go_ret2;exact⟨by rw[Int.natCast_mul];rfl,rfl⟩
def hdV(h:Hd):Value:= .agg #[I h.size,I h.fmt,I h.spare,Ψ h.cls,Ψ h.ser]
def w3V(a b c:Nat):Value:= .agg #[Ψ a,Ψ b,Ψ c]
def Spares(w:World):Prop:=5<=w.heap.size/\∀i,i<5->w.cell? ⟨0,i,none⟩=some (.bool (decide (i=2)))
theorem Spares.below{B:Nat}{w w':World}(h:Spares w)(a:Below B w w')(c:5<=B):Spares w':=
 ⟨Nat.le_trans h.1 a.size,fun i b=>by rw[a.cell (by show 0<B;omega)];exact h.2 i b⟩
theorem Spares.only{ps:List Nat}{w w':World}(h:Spares w)(a:Only ps w w')(c:0∉ps):Spares w':=
 ⟨Nat.le_trans h.1 a.size,fun i b=>by rw[<-h.2 i b];exact World.cell?_of_block (a.block 0 (by have:=h.1;omega) c)⟩
theorem yk(w:World)(h:Hd)(k:h.Ok)(hs:Spares w):Calls prog 182 #[hdV h] w fun e w'=>e= .returned (.bool true)/\Below w w w':=by
 obtain⟨d,f,g,c,s⟩:=h;have h1:d<=65535:=k.size;have j:1<=f:=k.f1;have m:f<=4:=k.f4;have n:g<=3:=k.spare;have i:g=0∨(f=2/\0<d):=k.sp;unfold hdV;simp only;have A:decide ((d:Int)<0)=false:=dF;have B:decide ((65535:Int)<(d:Int))=false:=dF;have t:decide (65535<d)=false:=dF;have C:decide ((f:Int)<=0)=false:=dF;have u:decide (f<=0)=false:=dF;have r:decide (f=0)=false:=dF;have D:decide ((5:Int)<=(f:Int))=false:=dF;have v:decide (5<=f)=false:=dF;have E:decide ((g:Int)<0)=false:=dF;have F:decide ((3:Int)<(g:Int))=false:=dF;have x:decide (3<g)=false:=dF;have p:Below w w (w.alloc (.cells #[I d,I f,I g,Ψ c,Ψ s] 94)):=(Below.refl _ _).alloc ι _;rcases i with i|⟨i,h6⟩
 ·subst i;clear k h1 j m n hs;go_enter func182,ntmps182;go_wp2;go_ret;exact⟨rfl,p⟩
 ·subst i;by_cases h0:g=0
  ·subst h0;clear k h1 j m n hs;go_enter func182,ntmps182;go_wp2;go_ret;exact⟨rfl,p⟩
  ·have q:((g:Int)==0)=false:=nE;have G:decide ((0:Int)<(d:Int))=true:=dT;have y:decide (0<d)=true:=decide_eq_true h6;have z:=hs.2 2 δ;simp only[decide_true]at z;have H:0<w.heap.size:=by have:=hs.1;omega
   clear k h1 j m n hs h0 h6;go_enter func182,ntmps182;go_wp2;go_ret;exact⟨rfl,p⟩
theorem zf{b f a:Nat}(h1:b<=65535)(e:f<=4)(g:a<=3):bits .or .u32 (bits .or .u32 (b:Int) ((f:Int)*16777216)) ((a:Int)*134217728)=((b+f*16777216+a*134217728:Nat):Int):=by
 have c:(f:Int)*16777216=((f*16777216:Nat):Int):=ω
 have d:(a:Int)*134217728=((a*134217728:Nat):Int):=ω
 rw[c,d,u32_or_nat b _ ω ω,Nat.or_comm,nat_join 24 _ _ ω ω,u32_or_nat _ _ ω ω,Nat.or_comm,nat_join 27 _ _ ω ω];congr 1;omega
theorem pL(w:World)(h:Hd)(k:h.Ok):Calls prog 183 #[hdV h] w fun e w'=>e= .returned (w3V h.w0 h.cls h.ser)/\Below w w w':=by
 obtain⟨b,f,d,c,s⟩:=h;have h1:b<=65535:=k.size;have m:1<=f:=k.f1;have g:f<=4:=k.f4;have i:d<=3:=k.spare;have j:=hid (zf h1 g i);unfold hdV;simp only;go_enter func183,ntmps183;go_wp2_with fail;rw[j.out];refine bodyPost_ret (v:=w3V (b+f*16777216+d*134217728) c s) (by simp[results,results183,go_sem,w3V]) rfl ⟨rfl,?_⟩;exact((Below.refl _ _).alloc ι _).alloc (by rw[World.size_alloc];omega) _
theorem aA(w:World)(t:TypeId)(b:List Value): ∃W,W=w.alloc (.cells b.toArray t)/\Row W w t b/\Below w w W/\W.heap.size=w.heap.size+1:=
 ⟨_,rfl,by unfold Row;exact heap_alloc_new _ _,(Below.refl _ _).alloc ι _,World.size_alloc _ _⟩
theorem Row.cells3{w:World}{g:Nat}{e:TypeId}{a b c:Value}(h:Row w g e [a,b,c]):w.cell? ⟨g,0,none⟩=some a/\w.cell? ⟨g,1,none⟩=some b/\w.cell? ⟨g,2,none⟩=some c:=
 ⟨h.ae 0,h.ae 1,h.ae 2⟩
theorem Row.cells5{w:World}{g:Nat}{e:TypeId}{a b c d f:Value}(h:Row w g e [a,b,c,d,f]):w.cell? ⟨g,0,none⟩=some a/\w.cell? ⟨g,1,none⟩=some b/\w.cell? ⟨g,2,none⟩=some c/\w.cell? ⟨g,3,none⟩=some d/\w.cell? ⟨g,4,none⟩=some f:=
 ⟨h.ae 0,h.ae 1,h.ae 2,h.ae 3,h.ae 4⟩
theorem Ex{P:Program}{f:FuncId}{a:Array Value}{U:World}{q:Ending->World->Prop}(h: ∀X,Below U U X->Calls P f a X fun e b=>q e b/\Below X.heap.size X b)(X:World)(c:Below U U X):Calls P f a X fun e b=>q e b/\Below U U b:=(h X c).mono fun _ _ ⟨h1,d⟩=>⟨h1,c.trans (d.mono c.size)⟩
theorem AI(w:World)(h:Hd)(k:h.Ok)(hs:Spares w):Calls prog 93 #[hdV h] w fun e w'=>e=Rt #[w3V h.w0 h.cls h.ser,I 0]/\Below w w w':=by
 obtain⟨W,L,d,p,q⟩:=aA w 94 [I h.size,I h.fmt,I h.spare,Ψ h.cls,Ψ h.ser];obtain⟨V,M,b,i,A⟩:=aA W 150 [Ψ 0,Ψ 0,Ψ 0];rw[q]at b;have j:Below w w V:=p.trans (i.mono ω);replace d:=d.below i d.lt;have O:=hid (show V=(w.alloc (.cells #[I h.size,I h.fmt,I h.spare,Ψ h.cls,Ψ h.ser] 94)).alloc (.cells #[Ψ 0,Ψ 0,Ψ 0] 150) by rw[M,L]);have P:5<=w.heap.size:=hs.1;have G:=hid (fun X (Y:Below w w X)=>yk X h k (hs.below Y P));have z:=hid (fun X=>pL X h k);have H:=hid (show hdV h= .agg #[I h.size,I h.fmt,I h.spare,Ψ h.cls,Ψ h.ser]from rfl);rw[H.out]at G z ⊢;generalize h.size=sz at*
 generalize h.fmt=f at*
 generalize h.spare=sp at*
 obtain⟨N,u⟩: ∃x,x=h.w0:=⟨_,rfl⟩;rw[<-u]at z ⊢;generalize h.cls=c at*
 generalize h.ser=s at*
 clear M L q A p i hs u k H;obtain⟨B,C,D,E,F⟩:=d.cells5;go_enter func93,ntmps93;go_wp2_with fail;rw[<-O.out];go_wp2_with fail;refine(G.out V j).mono ?_;rintro e U ⟨rfl,hb⟩;(try dsimp only);replace d:=d.below hb d.lt;replace b:=b.below hb b.lt;replace j:=τ j hb;clear hb B C D E F;obtain⟨B,C,D,E,F⟩:=d.cells5;go_wp2_with fail;refine(z.out U).mono ?_;rintro e V2 ⟨rfl,hb⟩;(try dsimp only);replace b:=b.below hb b.lt;replace j:=τ j hb;clear hb B C D E F d;obtain⟨q0,q1,q2⟩:=b.cells3;have Z:=b.free 0;have z1:=b.free 1;have z2:=b.free 2;unfold w3V;go_wp2_with fail;have Q:=((b.af 0 (Ψ N)).af 1 (Ψ c)).af 2 (Ψ s);obtain⟨R,S,T⟩:=Row.cells3 Q;refine bodyPost_ret (v:= .tuple #[.agg #[Ψ N,Ψ c,Ψ s],I 0]) (by simp[results,results93,go_sem,R,S,T]) rfl ⟨rfl,?_⟩;exact aw (aw (aw j ω _) ω _) ω _
end Go.Proofs.YtfefijlnbhbplaaGreatDoor
namespace Go.Proofs.YtfefijlnbhbplaaGreatDoor.Limb
def nu(h:Pk)(r n:Nat):Option Pk:=(mo h 0 1 n).bind fun x=>xP x.2 r x.1
theorem ji{h:Hp}(k:Good h)(r n:Nat):Up1 (jY h r n) (nu (pk h) r n):=by
 have e:jY h r n=(aW h 0 1 n).bind fun x=>some (setR x.2 r x.1):=by unfold jY;cases aW h 0 1 n<;>rfl
 rw[e];exact(kN k _ _ _).ag fun a h1 c=>xr c r a
def kh:List Nat->Pk->Option (List Nat×Pk)
 |[],h=>some ([],h)
 |r :: t,h=>(nu h r 6).bind fun h1=>(mo h1 0 1 6).bind fun m=>(kh t m.2).map fun x=>(m.1 :: x.1,x.2)
theorem ik: ∀(l:List Nat) (h:Hp),Good h->Up (dp l h) (kh l (pk h))
 |[],h,k=>Up.ret k _
 |r :: t,h,k=>(ji k r 6).bind fun _ c=>(kN c 0 1 6).bind fun a e f=>(ik t e f).map (fun y=>a :: y)
def AZ(h:Pk)(a:List Nat)(i:Nat)(p:fA):Option Pk:=
 let c:=rd h.R (10+i)
 let m:=wd a i
 (gz h c 4 (2*bA p.fmt (bu 6 (10+i)) p.idx+1)).bind fun h=>(gz h m 4 (2*49+1)).bind fun h=>(gz h m 5 c).bind fun h=>(gz h m 1 (rd h.R 11)).bind fun h=>
 ((if p.sup=0 then some h else(gz h c 1 (rd h.R p.sup)).bind fun h1=>gz h1 m 1 (wd a (p.sup-10)))).bind fun h=>(vy h c m).bind fun h=>vy h m (rd h.R 12)
theorem DS{h:Hp}(k:Good h)(a:List Nat)(i:Nat)(p:fA):Up1 (some (kI h a i p)) (AZ (pk h) a i p):=by
 have e:some (kI h a i p)=(some (putF h (wd h.rt (10+i)) 4 (2*bA p.fmt (bu 6 (10+i)) p.idx+1))).bind fun h1=>(some (putF h1 (wd a i) 4 (2*49+1))).bind fun h1=>(some (putF h1 (wd a i) 5 (wd h.rt (10+i)))).bind fun h1=>(some (putF h1 (wd a i) 1 (wd h1.rt 11))).bind fun h1=>
  (if p.sup=0 then some h1 else(some (putF h1 (wd h.rt (10+i)) 1 (wd h1.rt p.sup))).bind fun g=>some (putF g (wd a i) 1 (wd a (p.sup-10)))).bind fun h1=>(some (setC h1 (wd h.rt (10+i)) (wd a i))).bind fun h1=>some (setC h1 (wd a i) (wd h1.rt 12)):=by
  unfold kI;by_cases h0:p.sup=0
  ·simp only[if_pos h0];rfl
  ·simp only[if_neg h0];rfl
 rw[e];unfold AZ;simp only[c8 k];refine(du k _ _ _).ag fun h1 l=>(du l _ _ _).ag fun g m=>(du m _ _ _).ag fun r j=>?_
 simp only[c8 j];refine(du j _ _ _).ag fun s f=>Up1.ag ?_ fun t o=>?_
 ·by_cases h0:p.sup=0
  ·simp only[if_pos h0];exact Up1.ret f
  ·simp only[if_neg h0,c8 f];exact(du f _ _ _).ag fun q c=>du c _ _ _
 ·refine(nH o _ _).ag fun q c=>?_
  simp only[c8 c];exact nH c _ _
def lh(a:List Nat):Nat->List fA->Pk->Option Pk
 |_,[],h=>some h
 |i,p :: t,h=>(AZ h a i p).bind fun x=>lh a (i+1) t x
theorem kD(a:List Nat): ∀(l:List fA) (i:Nat) (h:Hp),Good h->Up1 (some (da a i l h)) (lh a i l (pk h))
 |[],_,h,k=>Up1.ret k
 |p :: t,i,h,k=>by
  show Up1 ((some (kI h a i p)).bind fun x=>some (da a (i+1) t x)) _
  exact(DS k a i p).ag fun c e=>kD a t (i+1) c e
def ce:List (Nat×Nat)->Hp->Hp
 |[],h=>h
 |(r,c) :: t,h=>ce t (setC h (wd h.rt r) (wd h.rt c))
def iB:List (Nat×Nat)->Pk->Option Pk
 |[],h=>some h
 |(r,c) :: t,h=>(vy h (rd h.R r) (rd h.R c)).bind fun x=>iB t x
theorem gZ: ∀(l:List (Nat×Nat)) (h:Hp),Good h->Up1 (some (ce l h)) (iB l (pk h))
 |[],h,k=>Up1.ret k
 |(r,c) :: t,h,k=>by
  show Up1 ((some (setC h (wd h.rt r) (wd h.rt c))).bind fun x=>some (ce t x)) _
  unfold iB;simp only[c8 k];exact(nH k _ _).ag fun a e=>gZ t a e
def bareCls:List (Nat×Nat):=[(0,13),(1,14),(2,15),(3,20),(4,20),(6,20),(8,20)]
def tenOn:List Nat:=[10,11,12,13,14,15,16,17,18,19,20,21,22,23,24,25,26,27,28,29,30,31]
def i9(h:Hp):Option Hp:=(dp tenOn h).map fun x=>ce bareCls (da x.1 0 plans x.2)
def tT(h:Pk):Option Pk:=(kh tenOn h).bind fun x=>(lh x.1 0 plans x.2).bind fun y=>iB bareCls y
theorem wL{h:Hp}(k:Good h):Up1 (i9 h) (tT (pk h)):=by
 have e:i9 h=(dp tenOn h).bind fun x=>(some (da x.1 0 plans x.2)).bind fun y=>some (ce bareCls y):=by unfold i9;cases dp tenOn h<;>rfl
 rw[e];exact(ik _ h k).ag fun a h1 c=>(kD a plans 0 h1 c).ag fun f g=>gZ _ f g
def bZ:List (Nat×Nat)->Hp->Option Hp
 |[],h=>some h
 |(r,n) :: t,h=>(jY h r n).bind fun x=>bZ t x
def fU:List (Nat×Nat)->Pk->Option Pk
 |[],h=>some h
 |(r,n) :: t,h=>(nu h r n).bind fun x=>fU t x
theorem ea: ∀(l:List (Nat×Nat)) (h:Hp),Good h->Up1 (bZ l h) (fU l (pk h))
 |[],h,k=>Up1.ret k
 |(r,n) :: t,h,k=>(ji k r n).ag fun h1 a=>ea t h1 a
def cB:List (Nat×Nat):=[(0,0),(1,0),(2,0),(3,128),(4,32),(6,8),(8,16)]
def jK:List Nat->Hp->Hp
 |[],h=>h
 |r :: t,h=>jK t (setR h r (wd h.rt 0))
def nw:List Nat->Pk->Option Pk
 |[],h=>some h
 |r :: t,h=>(xP h r (rd h.R 0)).bind fun x=>nw t x
theorem jk: ∀(l:List Nat) (h:Hp),Good h->Up1 (some (jK l h)) (nw l (pk h))
 |[],h,k=>Up1.ret k
 |r :: t,h,k=>by
  show Up1 ((some (setR h r (wd h.rt 0))).bind fun x=>some (jK t x)) _
  unfold nw;simp only[c8 k];exact(xr k _ _).ag fun a c=>jk t a c
def vz(n:Nat):Option Hp:=(bZ cB (cG n)).bind fun h=>i9 (jK [5,7,9] h)
def sh(n:Nat):Option Pk:=(fU cB (pk (cG n))).bind fun h=>(nw [5,7,9] h).bind tT
theorem uc{n:Nat}(h1:64<=n)(c:n<=1048576):Up1 (vz n) (sh n):=by
 refine(ea cB _ (dC h1 c)).ag fun h k=>?_
 show Up1 ((some (jK [5,7,9] h)).bind i9) _
 exact(jk _ h k).ag fun e a=>wL a
def qe(n:Nat):Option Hp:=(vz n).bind fun h=>(dt 0 plans h).bind fun h=>(dV 0 sels h).bind fun h=>bo 0 plans h
def BE(n:Nat):Option Pk:=(sh n).bind fun h=>(oE 0 plans h).bind fun h=>(sB 0 sels h).bind fun h=>gU 0 plans h
theorem DT{n:Nat}(h1:64<=n)(a:n<=1048576):Up1 (qe n) (BE n):=
 (uc h1 a).ag fun h k=>(pf plans 0 h k (by decide+kernel)).ag fun h k=>(qT sels 0 h k (by decide+kernel)).ag fun h k=>j5 plans 0 h k (by decide+kernel)
def tG(h:Hp)(a:List Nat)(i:Nat)(p:fA):Hp:=
 let c:=wd h.rt (10+i)
 let m:=wd a i
 let h1:=setC h c m
 let h1:=setC h1 m (wd h1.rt 12)
 let h1:=putF h1 c 0 (wd h.rt 0)
 let h1:=putF h1 c 1 (if p.sup=0 then wd h.rt 0 else wd h.rt p.sup)
 let h1:=putF h1 c 4 (2*bA p.fmt (bu 6 (10+i)) p.idx+1)
 let h1:=putF h1 m 1 (if p.sup=0 then wd h.rt 11 else wd a (p.sup-10))
 putF (putF h1 m 4 (2*49+1)) m 5 c
def vw(h:Pk)(a:List Nat)(i:Nat)(p:fA):Option Pk:=
 (vy h (rd h.R (10+i)) (wd a i)).bind fun h1=>(vy h1 (wd a i) (rd h1.R 12)).bind fun h1=>(gz h1 (rd h.R (10+i)) 0 (rd h.R 0)).bind fun h1=>(gz h1 (rd h.R (10+i)) 1 (if p.sup=0 then rd h.R 0 else rd h.R p.sup)).bind fun h1=>
 (gz h1 (rd h.R (10+i)) 4 (2*bA p.fmt (bu 6 (10+i)) p.idx+1)).bind fun h1=>(gz h1 (wd a i) 1 (if p.sup=0 then rd h.R 11 else wd a (p.sup-10))).bind fun h1=>(gz h1 (wd a i) 4 (2*49+1)).bind fun h1=>gz h1 (wd a i) 5 (rd h.R (10+i))
theorem CZ{h:Hp}(k:Good h)(c:List Nat)(i:Nat)(p:fA):Up1 (some (tG h c i p)) (vw (pk h) c i p):=by
 unfold vw;simp only[c8 k];show Up1 ((some (setC h (wd h.rt (10+i)) (wd c i))).bind fun h1=>(some (setC h1 (wd c i) (wd h1.rt 12))).bind fun h1=>(some (putF h1 (wd h.rt (10+i)) 0 (wd h.rt 0))).bind fun h1=>(some (putF h1 (wd h.rt (10+i)) 1 (if p.sup=0 then wd h.rt 0 else wd h.rt p.sup))).bind fun h1=>(some (putF h1 (wd h.rt (10+i)) 4 (2*bA p.fmt (bu 6 (10+i)) p.idx+1))).bind fun h1=>(some (putF h1 (wd c i) 1 (if p.sup=0 then wd h.rt 11 else wd c (p.sup-10)))).bind fun h1=>(some (putF h1 (wd c i) 4 (2*49+1))).bind fun h1=>some (putF h1 (wd c i) 5 (wd h.rt (10+i)))) _
 refine(nH k _ _).ag fun h1 a=>?_
 simp only[c8 a];exact(nH a _ _).ag fun h1 a=>(du a _ _ _).ag fun h1 a=>(du a _ _ _).ag fun h1 a=>(du a _ _ _).ag fun h1 a=>(du a _ _ _).ag fun h1 a=>(du a _ _ _).ag fun h1 a=>du a _ _ _
def cM(a:List Nat):Nat->List fA->Hp->Hp
 |_,[],h=>h
 |i,p :: t,h=>cM a (i+1) t (tG h a i p)
def jF(a:List Nat):Nat->List fA->Pk->Option Pk
 |_,[],h=>some h
 |i,p :: t,h=>(vw h a i p).bind fun x=>jF a (i+1) t x
theorem jf(a:List Nat): ∀(l:List fA) (i:Nat) (h:Hp),Good h->Up1 (some (cM a i l h)) (jF a i l (pk h))
 |[],_,h,k=>Up1.ret k
 |p :: t,i,h,k=>by
  show Up1 ((some (tG h a i p)).bind fun x=>some (cM a (i+1) t x)) _
  exact(CZ k a i p).ag fun c e=>jf a t (i+1) c e
def je(h:Hp):Option Hp:=(dp tenOn h).map fun x=>ce bareCls (cM x.1 0 plans x.2)
def qz(h:Pk):Option Pk:=(kh tenOn h).bind fun x=>(jF x.1 0 plans x.2).bind fun y=>iB bareCls y
theorem uQ{h:Hp}(k:Good h):Up1 (je h) (qz (pk h)):=by
 have e:je h=(dp tenOn h).bind fun x=>(some (cM x.1 0 plans x.2)).bind fun y=>some (ce bareCls y):=by unfold je;cases dp tenOn h<;>rfl
 rw[e];exact(ik _ h k).ag fun a h1 c=>(jf a plans 0 h1 c).ag fun f g=>gZ _ f g
def nA(n:Nat):Option Hp:=(jY (cG n) 0 0).bind fun h=>bZ (cB.drop 1) (jK [5,7,9] h)
def sF(n:Nat):Option Pk:=(nu (pk (cG n)) 0 0).bind fun h=>(nw [5,7,9] h).bind fun h=>fU (cB.drop 1) h
def wa(n:Nat):Option Hp:=(nA n).bind je
def sH(n:Nat):Option Pk:=(sF n).bind qz
theorem A8{n:Nat}(h1:64<=n)(e:n<=1048576):Up1 (wa n) (sH n):=by
 refine Up1.ag ?_ fun h k=>uQ k
 refine(ji (dC h1 e) 0 0).ag fun h k=>?_
 show Up1 ((some (jK [5,7,9] h)).bind fun h=>bZ (cB.drop 1) h) _
 exact(jk _ h k).ag fun a c=>ea _ a c
theorem qg: ∀(a b:List Bool),a.length=b.length->dx a=dx b->a=b
 |[],[],_,_=>rfl
 |[],_ :: _,h,_=>by simp at h
 |_ :: _,[],h,_=>by simp at h
 |x :: s,y :: t,h,e=>by
  have c:(if x then 1 else 0)+2*dx s=(if y then 1 else 0)+2*dx t:=e;have h1:dx s=dx t:=by cases x<;>cases y<;>simp at c<;>omega
  have d:x=y:=(by cases x<;>cases y<;>simp at c<;>first |rfl|omega);rw[d,qg s t (by simpa using h) h1]
theorem Fo{a b:Hp}(c:Good a)(d:Good b)(h:pk a=pk b):a=b:=by
 have e:=h;unfold pk at e;rw[Pk.mk.injEq]at e;obtain⟨l,f,m,n,o,p⟩:=e;obtain⟨q,r,s,t,u⟩:=a;obtain⟨v,bs,x,y,z⟩:=b;have h1:q=v:=sj c.lim d.lim f l;have g:s=x:=sj c.rlim d.rlim (c.rlen.trans d.rlen.symm) n;have i:r=bs:=qg _ _ (c.len.trans (f.trans d.len.symm)) m;have j:t=y:=o;have k:u=z:=p;rw[h1,g,i,j,k]
def t7(n:Nat):Option Hp:=(wa n).bind fun h=>(dt 0 plans h).bind fun h=>(dV 0 sels h).bind fun h=>bo 0 plans h
def Pk.told(p:Pk):Bool:=decide (p.n=1163)&&decide (p.last=154)&&(tenOn.all fun i=>qF p (rd p.R i) 1 6)&&([0,1,2,3,4,5,6,7,8,9].all fun i=>qO p (rd p.R i))&&qF p (rd p.R 3) 1 128&&qF p (rd p.R 4) 1 32
def Pk.parts(p:Pk):List Nat:=[p.V,p.n,p.S,p.R,p.size,p.last]
theorem Pk.of_parts{a b:Option Pk}(h:a.map Pk.parts=b.map Pk.parts):a=b:=by
 cases a with
 |none=>cases b with
  |none=>rfl
  |some b=>cases h
 |some a=>cases b with
  |none=>cases h
  |some b=>
   obtain⟨c,d,e,f,g,i⟩:=a;obtain⟨j,k,l,m,n,o⟩:=b;simpa[Pk.parts]using h
theorem zj:sh 4000=sH 4000:=Pk.of_parts (by decide+kernel)
theorem zK:(BE 4000).map (fun p=>p.told&&decide (p.size=4000))=some true:=by decide+kernel
structure rS (n:Nat) (h:Hp):Prop where
 good:Good h
 size:h.size=n
 len:h.ws.length=1163
 last:h.last=154
 cls: ∀i,10<=i->i<=31->isF h (wd h.rt i) 1 6=true
 low: ∀i,i<10->isO h (wd h.rt i)=true
theorem Du{n:Nat}(h1:64<=n)(e:n<=1048576)(hs:sh n=sH n)(ht:(BE n).map (fun p=>p.told&&decide (p.size=n))=some true): ∃h,qe n=some h/\t7 n=some h/\rS n h:=by
 obtain⟨p,f,d⟩:=Option.map_eq_some_iff.1 ht;obtain⟨h,b,rfl,k⟩:=DT h1 e p f;obtain⟨g,j,E⟩:=Option.bind_eq_some_iff.1 f;obtain⟨l,o,q,r⟩:=uc h1 e g j;obtain⟨s,t,u,v⟩:=A8 h1 e g (hs ▸ j);obtain rfl:s=l:=Fo v r (u.trans q.symm);unfold Pk.told at d;simp only[Bool.and_eq_true,decide_eq_true_eq,List.all_eq_true]at d;obtain⟨⟨⟨⟨⟨⟨x,y⟩,z⟩,A⟩,F⟩,G⟩,B⟩:=d;refine⟨h,b,?_,k,B,x,y,fun i C D=>?_,fun i H=>?_⟩
 ·unfold qe at b;unfold t7;rw[o]at b;rw[t];exact b
 ·have c:=z i (by unfold tenOn;simp only[List.mem_cons,List.not_mem_nil,or_false];omega)
  rwa [ow k,c8 k]at c
 ·have c:=A i (by simp only[List.mem_cons,List.not_mem_nil,or_false];omega)
  rwa [qB,c8 k]at c
theorem yJ: ∃h,qe 4000=some h/\t7 4000=some h/\rS 4000 h:=Du δ δ zj zK
end Go.Proofs.YtfefijlnbhbplaaGreatDoor.Limb

/- Walks and laws that LargeData asks for. -/
import Derived.Test.YtfefijlnbhbplaaGreatDoorGX30
import Derived.Test.YtfefijlnbhbplaaGreatDoorGX16
set_option linter.unusedVariables false
set_option linter.unusedSimpArgs false
set_option maxRecDepth 1000000
set_option maxHeartbeats 6400000
namespace Go.Proofs.YtfefijlnbhbplaaGreatDoor
open Go Go.RowKit Limb
structure RFoot where
 p:Nat
 gw:Nat
 gb:Nat
 gr:Nat
def RFoot.l(G:RFoot):List Nat:=[G.p,G.gw,G.gb,G.gr]
def fu(l:List Bool):List Nat:=l.map fun b=>if b then 1 else 0
theorem fC(l:List Bool):(fu l).length=l.length:=by unfold fu;simp
theorem Db(l:List Bool)(i:Nat):wd (fu l) i=if l.getD i false then 1 else 0:=by
 unfold fu;by_cases h:i<l.length
 ·rw[wd_lt (by rw[List.length_map];exact h)];simp[List.getD_eq_getElem?_getD,h]
 ·rw[show wd (l.map fun b=>if b then 1 else 0) i=0 from by unfold wd;rw[List.getD_eq_getElem?_getD,List.getElem?_eq_none (by rw[List.length_map];omega)];rfl,List.getD_eq_getElem?_getD,List.getElem?_eq_none ω];rfl
theorem uV(a b:List Bool):fu (a++b)=fu a++fu b:=by unfold fu;rw[List.map_append]
structure RefAt (w:World) (G:RFoot) (h:Hp):Prop where
 good:Limb.Good h
 row: ∃cw cb,Row w G.p 52 [I h.size,M G.gw h.ws.length cw,M G.gr 64 64,Ψ h.last,M G.gb h.ws.length cb]/\Sl w G.gw 25 h.ws.length cw (aC .u32 h.ws)/\Sl w G.gb 5 h.ws.length cb (aC .u8 (fu h.st))
 roots:Row w G.gr 26 (aC .u32 h.rt)
 low:5<=G.p/\5<=G.gw/\5<=G.gb/\5<=G.gr
section
variable {w w':World} {G:RFoot} {h:Hp}
theorem RefAt.only{ps:List Nat}(H:RefAt w G h)(a:Only ps w w')(b: ∀g∈G.l,g∉ps):RefAt w' G h:=by
 obtain⟨c,d,e,f,i⟩:=H.row;have m:G.p∈G.l/\G.gw∈G.l/\G.gb∈G.l/\G.gr∈G.l:=by unfold RFoot.l;simp
 exact⟨H.good,⟨c,d,e.only a (b _ m.1),f.only a (b _ m.2.1),i.only a (b _ m.2.2.1)⟩,H.roots.only a (b _ m.2.2.2),H.low⟩
theorem RefAt.below(H:RefAt w G h)(a:Below w w w'):RefAt w' G h:=H.only (ps:=[]) (Only.of_below a) (by simp)
theorem RefAt.ah{B:Nat}(H:RefAt w G h)(a:Below B w w')(b:w.heap.size<=B):RefAt w' G h:=H.below (a.mono b)
theorem RefAt.drew(H:RefAt w G h):RefAt w.drew G h:=H.below (Below.refl _ _).drew
theorem RefAt.lt(H:RefAt w G h): ∀g∈G.l,g<w.heap.size:=by
 obtain⟨e,f,b,c,d⟩:=H.row;have:=H.roots.lt;have:=b.lt;have:=c.lt;have:=d.lt;intro g a;unfold RFoot.l at a;simp only[List.mem_cons,List.not_mem_nil,or_false]at a;rcases a with rfl|rfl|rfl|rfl<;>assumption
theorem RefAt.ge(H:RefAt w G h): ∀g∈G.l,5<=g:=by
 obtain⟨a,b,c,d⟩:=H.low;intro g e;unfold RFoot.l at e;simp only[List.mem_cons,List.not_mem_nil,or_false]at e;rcases e with rfl|rfl|rfl|rfl<;>assumption
theorem RefAt.apart(H:RefAt w G h):G.p≠G.gw/\G.p≠G.gb/\G.p≠G.gr/\G.gw≠G.gb/\G.gw≠G.gr/\G.gb≠G.gr:=by
 obtain⟨e,f,d,a,b⟩:=H.row;obtain⟨_,a⟩:=a.row;obtain⟨_,b⟩:=b.row;have c:=H.roots;exact⟨d.ne a δ,d.ne b δ,d.ne c δ,a.ne b δ,a.ne c δ,b.ne c δ⟩
theorem RefAt.cells(H:RefAt w G h): ∃f g,w.cell? ⟨G.p,0,none⟩=O (I h.size)/\w.cell? ⟨G.p,1,none⟩=O (M G.gw h.ws.length f)/\w.cell? ⟨G.p,2,none⟩=O (M G.gr 64 64)/\w.cell? ⟨G.p,3,none⟩=O (Ψ h.last)/\w.cell? ⟨G.p,4,none⟩=O (M G.gb h.ws.length g)/\Sl w G.gw 25 h.ws.length f (aC .u32 h.ws)/\Sl w G.gb 5 h.ws.length g (aC .u8 (fu h.st)):=by
 obtain⟨f,g,i,j,k⟩:=H.row;obtain⟨a,b,c,d,e⟩:=i.cells5;exact⟨f,g,a,b,c,d,e,j,k⟩
theorem RefAt.ai(H:RefAt w G h){i:Nat}(a:i<64):w.cell? ⟨G.gr,i,none⟩=O (Ψ (wd h.rt i:Nat)):=H.roots.cell (by rw[H.good.rlen];exact a)
theorem RefAt.small(H:RefAt w G h):h.ws.length<=1048576/\h.size<=1048576/\64<=h.size:=⟨Nat.le_trans H.good.fits H.good.sM,H.good.sM,H.good.s64⟩
end
structure RFoot.Next (G G':RFoot) (w:World):Prop where
 p:G'.p=G.p
 gr:G'.gr=G.gr
 gw:G'.gw=G.gw∨w.heap.size<=G'.gw
 gb:G'.gb=G.gb∨w.heap.size<=G'.gb
theorem RFoot.Next.refl(G:RFoot)(w:World):G.Next G w:=⟨rfl,rfl,.inl rfl,.inl rfl⟩
theorem RFoot.Next.trans{G b a:RFoot}{w w':World}(h:G.Next b w)(k:b.Next a w')(hs:w.heap.size<=w'.heap.size):G.Next a w:=
 ⟨k.p.trans h.p,k.gr.trans h.gr,by rcases k.gw with e|e;rw[e];exact h.gw;exact .inr ω,by rcases k.gb with e|e;rw[e];exact h.gb;exact .inr ω⟩
theorem RFoot.Next.mem{G a:RFoot}{w:World}(h:G.Next a w): ∀g∈a.l,g∈G.l∨w.heap.size<=g:=by
 intro g b;unfold RFoot.l at*
 simp only[List.mem_cons,List.not_mem_nil,or_false]at*
 rcases b with rfl|rfl|rfl|rfl
 ·exact .inl (.inl h.p)
 ·rcases h.gw with e|e
  ·exact .inl (.inr (.inl e))
  ·exact .inr e
 ·rcases h.gb with e|e
  ·exact .inl (.inr (.inr (.inl e)))
  ·exact .inr e
 ·exact .inl (.inr (.inr (.inr h.gr)))
def RStep(w:World)(G:RFoot)(w':World)(a:RFoot)(b:Hp):Prop:=RefAt w' a b/\G.Next a w/\Only G.l w w'
theorem RStep.trans{w w' c:World}{G g d:RFoot}{j f:Hp}(a:RStep w G w' g j)(b:RStep w' g c d f):RStep w G c d f:=
 ⟨b.1,a.2.1.trans b.2.1 a.2.2.size,a.2.2.trans b.2.2 a.2.1.mem⟩
theorem RStep.refl{w:World}{G:RFoot}{h:Hp}(H:RefAt w G h):RStep w G w G h:=⟨H,RFoot.Next.refl _ _,Only.refl _ _⟩
theorem RStep.below{w w' c:World}{G d:RFoot}{f:Hp}(a:RStep w G w' d f)(g:Below w' w' c):RStep w G c d f:=
 ⟨a.1.below g,a.2.1,a.2.2.trans (qs:=[]) (Only.of_below g) (fun q i=>by cases i)⟩
theorem RStep.of_below{w w' c:World}{G f:RFoot}{i:Hp}(d:Below w w w')(a:RStep w' G c f i)(k: ∀g∈G.l,g<w.heap.size):RStep w G c f i:=
 ⟨a.1,⟨a.2.1.p,a.2.1.gr,a.2.1.gw.imp id (fun e=>Nat.le_trans d.size e),a.2.1.gb.imp id (fun e=>Nat.le_trans d.size e)⟩,(Only.of_below d).trans a.2.2 (fun q j=> .inl j)⟩
theorem RStep.beside{w w':World}{G c:RFoot}{d:Hp}(a:RStep w G w' c d){g:Nat}{e:TypeId}{b:List Value}(f:Row w g e b)(i:g∉G.l):Row w' g e b:=f.only a.2.2 i
def RMoved(w:World)(G:RFoot)(w':World)(b:Hp):Prop:= ∃a,RStep w G w' a b
open Lib Tryz
theorem sk(w:World)(o:Nat)(d:o<4294967296):Calls prog 119 #[Ψ o] w fun e w'=>e= .returned (I (bI o))/\w=w':=by
 by_cases h0:o=0
 ·subst h0;rw[(φ:bI 0=0)];go_enter func119,ntmps119;go_wp2;go_ret;exact⟨rfl,rfl⟩
 ·have c:((o:Int)==0)=false:=nE;have a:(o==0)=false:=nE
  by_cases h1:o%2=1
  ·have e:bI o=1:=(by unfold bI;rw[if_neg h0,if_pos h1]);have b:((o:Int)%2==1)=true:=by rw[beq_iff_eq];omega
   rw[e];clear h0 h1 e;go_enter func119,ntmps119;go_wp2;go_ret;exact⟨rfl,rfl⟩
  ·have e:bI o=2:=(by unfold bI;rw[if_neg h0,if_neg h1]);have b:((o:Int)%2==1)=false:=nE
   rw[e];clear h0 h1 e;go_enter func119,ntmps119;go_wp2;go_ret;exact⟨rfl,rfl⟩
theorem CR(w:World)(n:Int):Calls prog 91 #[I n] w fun e w'=>e= .returned (.bool (bC n))/\w=w':=by
 unfold bC;by_cases h1: -1073741824<=n
 ·have a:decide (-1073741824<=n)=true:=decide_eq_true h1;by_cases d:n<=1073741823
  ·have c:decide (n<=1073741823)=true:=decide_eq_true d;rw[a,c];go_enter func91,ntmps91;go_wp2;go_ret;exact⟨rfl,rfl⟩
  ·have c:decide (n<=1073741823)=false:=decide_eq_false d;rw[a,c];go_enter func91,ntmps91;go_wp2;go_ret;exact⟨rfl,rfl⟩
 ·have a:decide (-1073741824<=n)=false:=decide_eq_false h1;rw[a];go_enter func91,ntmps91;go_wp2;go_ret;exact⟨rfl,rfl⟩
theorem xG(w:World)(n:Int)(a:bC n=true):Calls prog 42 #[I n] w fun e w'=>e= .returned (Ψ (dE n))/\w=w':=by
 unfold bC at a;simp only[Bool.and_eq_true,decide_eq_true_eq]at a;obtain⟨h1,c⟩:=a;by_cases h0:2*n+1<0
 ·have b:decide (2*n+1<0)=true:=decide_eq_true h0;have e:((dE n:Nat):Int)=2*n+1+4294967296:=by unfold dE;omega
  rw[e];go_enter func42,ntmps42;go_wp2;go_ret;exact⟨by first |rfl|(congr 3;omega),rfl⟩
 ·have b:decide (2*n+1<0)=false:=decide_eq_false h0;have e:((dE n:Nat):Int)=2*n+1:=by unfold dE;omega
  rw[e];go_enter func42,ntmps42;go_wp2;go_ret;exact⟨by first |rfl|(congr 3;omega),rfl⟩
theorem D8(w:World)(o:Nat)(f:o<4294967296)(h1:o%2=1):Calls prog 121 #[Ψ o] w fun e w'=>e= .returned (I (cN o))/\w=w':=by
 by_cases h0:o<2147483648
 ·have b:decide (2147483648<=(o:Int))=false:=dF;have c:decide (2147483648<=o)=false:=dF;have e:cN o=((o:Int)-1)/2:=by unfold cN;rw[if_pos h0]
  rw[e];go_enter func121,ntmps121;go_wp2;go_ret;exact⟨by first |rfl|(congr 3;omega),rfl⟩
 ·have b:decide (2147483648<=(o:Int))=true:=dT;have c:decide (2147483648<=o)=true:=dT;obtain⟨m,a⟩: ∃m:Nat,o=4294967296-(2*m+1)/\m<1073741824:=⟨(4294967295-o)/2,ω,ω⟩;have e:cN o= -((m:Int)+1):=by unfold cN;rw[if_neg h0];omega
  rw[e];have d:=hid a;clear a e h0;go_enter func121,ntmps121;go_wp2_with fail;rw[show((o:Int)-4294967296-1)=2*(-((m:Int)+1)) by have:=d.out;omega,Int.mul_tdiv_cancel_left _ (δ:(2:Int)≠0)];go_ret;exact⟨rfl,rfl⟩
theorem FA(w:World)(h:Hd)(k:h.Ok):Calls prog 254 #[hdV h] w fun e w'=>e= .returned (.bool true)/\Below w w w':=by
 have i:=hid ((Below.refl w w).alloc ι (.cells #[I h.size,I h.fmt,I h.spare,Ψ h.cls,Ψ h.ser] 94));obtain⟨j,m,n,p,g⟩:=k;unfold hdV;obtain⟨d,fm,f,M,N⟩:=h;simp only at j m n p g i ⊢;have B:decide ((d:Int)<0)=false:=dF;have C:decide ((65535:Int)<(d:Int))=false:=dF;have t:decide (65535<d)=false:=dF;have D:decide ((fm:Int)<1)=false:=dF;have u:decide (fm<1)=false:=dF;have q:decide (fm=0)=false:=dF;have E:decide ((4:Int)<(fm:Int))=false:=dF;have v:decide (4<fm)=false:=dF;have F:decide ((f:Int)<0)=false:=dF;have G:decide ((3:Int)<(f:Int))=false:=dF;have y:decide (3<f)=false:=dF;by_cases h0:f=0
 ·subst h0;clear j m n p g;go_enter func254,ntmps254;go_wp2;go_ret;exact⟨rfl,i.out⟩
 ·obtain⟨rfl,r⟩:fm=2/\0<d:=(by rcases g with x|x;exact absurd x h0;exact x);have H:((f:Int)==0)=false:=nE
  have z:(f==0)=false:=nE;have L:decide ((0:Int)<(d:Int))=true:=dT;have A:decide (0<d)=true:=decide_eq_true r;clear j m n p g h0 r;go_enter func254,ntmps254;go_wp2;go_ret;exact⟨rfl,i.out⟩
theorem EO(w:World)(h:Hd)(k:h.Ok):Calls prog 97 #[hdV h] w fun e w'=>e= .returned (w3V h.w0 h.cls h.ser)/\Below w w w':=by
 have b:=Hd.w0_lt k;have g:h.w0=h.size+h.fmt*16777216+h.spare*134217728:=rfl;unfold hdV w3V;rw[g]at b ⊢;obtain⟨d,fm,f,i,j⟩:=h;simp only at b ⊢;clear k g;have n:fm<=1000/\f<=1000/\d<=600000000:=ω
 have m:=hid (((Below.refl w w).alloc ι (.cells #[I d,I fm,I f,Ψ i,Ψ j] 94)).alloc (by rw[World.size_alloc];omega) (.cells #[Ψ ((d+fm*16777216+f*134217728:Nat):Int),Ψ i,Ψ j] 150));go_enter func97,ntmps97;go_wp2;go_returns;exact⟨rfl,m.out⟩
theorem B1(w:World)(h:Hd)(k:h.Ok):Calls prog 200 #[w3V h.w0 h.cls h.ser] w fun e w'=>e=Rt #[hdV h,.bool true]/\Below w w w':=by
 have B:=fun X=>FA X h k
 have R:=Hd.w0_lt k;have j:=CA k;unfold unp at j;have S:h.w0%16777216=h.size:=congrArg Hd.size j;have T:h.w0/16777216%8=h.fmt:=congrArg Hd.fmt j;have Y:h.w0/134217728%4=h.spare:=congrArg Hd.spare j;unfold hdV at B ⊢;unfold w3V;have C:((h.w0:Nat):Int)%16777216=(h.size:Int):=ω
 have D:((h.w0:Nat):Int)/16777216%8=(h.fmt:Int):=ω
 have E:((h.w0:Nat):Int)/134217728%4=(h.spare:Int):=ω
 have F:((h.w0:Nat):Int)/536870912=0:=ω
 have L:=hid B;clear j S T Y k B;generalize h.w0=a at*
 generalize h.size=z at*
 generalize h.fmt=fm at*
 generalize h.spare=A at*
 generalize h.cls=c at*
 generalize h.ser=s at*
 obtain⟨W,O,Z,q,f⟩:=aA w 150 [Ψ a,Ψ c,Ψ s];obtain⟨V,P,d,u,x⟩:=aA W 94 [I 0,I 0,I 0,Ψ 0,Ψ 0];rw[f]at d;obtain⟨U,Q,p,i,H⟩:=aA V 94 [I z,I fm,I A,Ψ c,Ψ s];rw[x,f]at p;have G:Below w w U:=q.trans ((u.mono ω).trans (i.mono ω));replace d:=d.below i d.lt;have M:=hid (show U=((w.alloc (.cells #[Ψ a,Ψ c,Ψ s] 150)).alloc (.cells #[I 0,I 0,I 0,Ψ 0,Ψ 0] 94)).alloc (.cells #[I z,I fm,I A,Ψ c,Ψ s] 94) by rw[Q,P,O]);clear P O Q f x H q u i Z;go_enter func200,ntmps200;go_wp2_with fail;rw[<-M.out];refine(L.out U).mono ?_;rintro e X ⟨rfl,hb⟩;(try dsimp only);replace d:=d.below hb d.lt;replace p:=p.below hb p.lt;replace G:=τ G hb;clear hb M L C D E F;obtain⟨p0,p1,p2,p3,p4⟩:=p.cells5;obtain⟨q0,q1,q2,q3,q4⟩:=d.cells5;have z0:=d.free 0;have z1:=d.free 1;have z2:=d.free 2;have z3:=d.free 3;have z4:=d.free 4;have N:=((((d.af 0 (I z)).af 1 (I fm)).af 2 (I A)).af 3 (Ψ c)).af 4 (Ψ s);obtain⟨f0,C,D,E,F⟩:=Row.cells5 N;clear N;go_wp2_with fail;refine bodyPost_ret (v:= .tuple #[.agg #[I z,I fm,I A,Ψ c,Ψ s],.bool true]) (by simp[results,results200,go_sem,f0,C,D,E,F]) rfl ⟨rfl,?_⟩;exact aw (aw (aw (aw (aw G ω _) ω _) ω _) ω _) ω _
theorem ug(w:World)(n:Nat)(m:n<=300000):Calls prog 135 #[I n] w fun e w'=>e=Rt #[I ((n+3)/4:Nat),I (4*((n+3)/4)-n:Nat)]/\w=w':=by
 obtain⟨N,d⟩:=ξ ((n+3)/4);rw[<-d];have b:=hid d;clear d;go_enter func135,ntmps135;go_wp2;go_loopw[4] (fun i g=> ∃k:Nat,k<=N/\i= .int .i64 k/\g=w) (fun i _=>N-(intOf i).toNat);case atStart=>exact⟨0,Nat.zero_le _,rfl,rfl⟩
 case round=>
  obtain⟨k,l,rfl,rfl⟩:=hrel;by_cases h0:k<N
  ·have f:decide (4*(k:Int)<(n:Int))=true:=decide_eq_true (by have:=b.out;omega);have c:k<=100000:=by have:=b.out;omega
   go_wp2;go_roundw;case rel=>exact⟨k+1,h0,by simp,trivial⟩
   case measure=>exact μ
  ·obtain rfl:k=N:=ω
   have f:decide (4*(k:Int)<(n:Int))=false:=decide_eq_false (by have:=b.out;omega);have c:k<=100000:=by have:=b.out;omega
   have j:4*(k:Int)-(n:Int)=((4*k-n:Nat):Int):=(by have:=b.out;omega);go_wp2;go_ret2;exact⟨rfl,rfl⟩
theorem kF(i:Nat):wd [] i=0:=by unfold wd;simp
theorem tq: ∀(t:List Nat) (j:Nat),wd (aU t) j=wd t (4*j)+256*wd t (4*j+1)+65536*wd t (4*j+2)+16777216*wd t (4*j+3)
 |[],j=>by simp[aU,kF]
 |[a],0=>by show a=_;simp[fQ,dc,kF]
 |[a],j+1=>by
  show wd [] j=_
  rw[(ω:4*(j+1)=4*j+3+1)];simp only[kF,dc]
 |[a,b],0=>by show a+256*b=_;simp[fQ,dc,kF]
 |[a,b],j+1=>by
  show wd [] j=_
  rw[(ω:4*(j+1)=4*j+2+1+1)];simp only[kF,dc]
 |[a,b,c],0=>by show a+256*b+65536*c=_;simp[fQ,dc,kF]
 |[a,b,c],j+1=>by
  show wd [] j=_
  rw[(ω:4*(j+1)=4*j+1+1+1+1)];simp only[kF,dc]
 |a :: b :: c :: d :: t,0=>by show a+256*b+65536*c+16777216*d=_;simp[fQ,dc]
 |a :: b :: c :: d :: t,j+1=>by
  show wd (aU t) j=_
  rw[tq t j,(ω:4*(j+1)=4*j+1+1+1+1)];simp only[dc]
def kw(t:List Nat)(k i:Nat):Nat:=if i<k then wd t i else 0
def fH(t:List Nat)(k j:Nat):Nat:=kw t k (4*j)+256*kw t k (4*j+1)+65536*kw t k (4*j+2)+16777216*kw t k (4*j+3)
theorem vZ(t:List Nat)(j:Nat):fH t 0 j=0:=by simp[fH,kw]
theorem yY(t:List Nat)(j:Nat):fH t t.length j=wd (aU t) j:=by
 have h: ∀i,kw t t.length i=wd t i:=fun i=>by
  unfold kw;split
  ·rfl
  ·rename_i h;unfold wd;rw[List.getD_eq_getElem?_getD,List.getElem?_eq_none ω];rfl
 rw[tq];unfold fH;rw[h,h,h,h]
theorem ju(t:List Nat)(k i:Nat):kw t (k+1) i=if i=k then wd t k else kw t k i:=by
 unfold kw;by_cases h:i=k
 ·subst h;rw[if_pos ω,if_pos rfl]
 ·rw[if_neg h];by_cases a:i<k
  ·rw[if_pos a,if_pos ω]
  ·rw[if_neg a,if_neg ω]
theorem jA(t:List Nat)(k:Nat):kw t k k=0:=by unfold kw;rw[if_neg ω]
theorem wz(t:List Nat)(k j:Nat):fH t (k+1) j=if j=k/4 then fH t k j+wd t k*256^(k%4)else fH t k j:=by
 unfold fH;rw[ju,ju,ju,ju];by_cases h:j=k/4
 ·rw[if_pos h];have a:k%4=0∨k%4=1∨k%4=2∨k%4=3:=ω
  rcases a with e|e|e|e
  ·have:k=4*j:=ω;subst this;rw[if_pos rfl,if_neg ω,if_neg ω,if_neg ω,jA,e];omega
  ·have:k=4*j+1:=ω;subst this;rw[if_neg ω,if_pos rfl,if_neg ω,if_neg ω,jA,e];omega
  ·have:k=4*j+2:=ω;subst this;rw[if_neg ω,if_neg ω,if_pos rfl,if_neg ω,jA,e];omega
  ·have:k=4*j+3:=ω;subst this;rw[if_neg ω,if_neg ω,if_neg ω,if_pos rfl,jA,e];omega
 ·rw[if_neg h,if_neg ω,if_neg ω,if_neg ω,if_neg ω]
theorem CS{t:List Nat}(ht:B8 t)(k j:Nat):fH t k j<4294967296:=by
 have h: ∀i,kw t k i<256:=fun i=>by
  unfold kw;split
  ·unfold wd;rw[List.getD_eq_getElem?_getD]
   cases e:t[i]? with
   |none=>simp
   |some x=>exact ht x (List.mem_of_getElem? e)
  ·decide
 unfold fH;have:=h (4*j);have:=h (4*j+1);have:=h (4*j+2);have:=h (4*j+3);omega
theorem y5(W:World):(sizeOf 5).run prog W= .ok 1 W:=κ
theorem zI{b j m:Nat}(c:b<256)(d:j<m)(e:m<=3):b*256^j*256<4294967296/\b*256^j*256=b*256^(j+1):=by
 refine⟨?_,by rw[Nat.pow_succ,Nat.mul_assoc]⟩;have a:j=0∨j=1∨j=2:=ω
 rcases a with rfl|rfl|rfl<;>omega
theorem tQ(w:World)(a:Option Addr)(t:List Nat)(n cap:Nat)(B:Lay .u8 w a t)(ht:B8 t)(hn:n=t.length)(hl:n<=262140):Calls prog 136 #[.slice a n cap] w fun e w'=>(∃g,e= .returned (M g ((n+3)/4) ((n+3)/4))/\w.heap.size<=g/\Row w' g 25 (aC .u32 (aU t)))/\Below w w w':=by
 have HL:=hid (ug w n ω);obtain⟨m,Y⟩:=ξ ((n+3)/4);rw[<-Y]at HL ⊢;have V:=hid Y;obtain⟨b,off,E,F,-⟩:=B.use (P:=prog) 50 5 underlying50 y5 cap;rw[<-hn]at E F
 have HIx:=hid (fun W (k:Nat) (hk:k<n)=>show(Instr.indexAt 50 (.slice a n cap) (I k)).run prog W= .ok (Θ b (off+k)) W from by
  have:=E W .i64 (k:Int) ω ω
  rwa [Int.toNat_natCast]at this)
 have HCx:=hid F
 have Q: ∀k,wd t k<256:=fun k=>by
  unfold wd;rw[List.getD_eq_getElem?_getD]
  cases e:t[k]? with
  |none=>simp
  |some x=>exact ht x (List.mem_of_getElem? e)
 have HB8:=hid Q;have HSt:=hid (CS ht);have C:=hid (fun k j=>wz t k j)
 have R:=hid (fun(l:List Nat) (h1:l.length=m) (h2: ∀j,j<m->wd l j=fH t n j)=>show l=aU t from by
  have S:=ct t;rw[<-hn,<-Y]at S;exact dX (h1.trans S.symm) (fun j hj=>by rw[h2 j ω,hn,yY]))
 clear E F Q ht B hn Y;go_enter func136,ntmps136;go_wp2_with fail;refine(HL.out).mono ?_;rintro e w1 ⟨rfl,rfl⟩;go_wp2_with(at_make;refine aI rfl _ _ _ rfl 25 (Ψ 0) 4 underlying22 bz rfl _ _ _ _ m m rfl rfl rfl rfl ι (by have:=V.out;omega) (by have:=V.out;omega) ?_;intro w1 g U hg2 d O);rw[show List.replicate m (Value.int .u32 0)=aC .u32 (List.replicate m 0)from(aG .u32 m).symm]at d;have HG:=hid U;clear U hg2 HL;go_loopw[6] (fun i wr=> ∃(k:Nat) (l:List Nat),k<=n/\i= .int .i64 k/\Hid (l.length=m)/\Hid (∀j,j<m->wd l j=fH t k j)/\Row wr g 25 (aC .u32 l)/\Below w w wr) (fun i _=>n-(intOf i).toNat);case atStart=>exact⟨0,_,Nat.zero_le _,rfl,hid (List.length_replicate),hid (fun j _=>by rw[vZ];unfold wd;rw[List.getD_eq_getElem?_getD,List.getElem?_replicate];split<;>rfl),d,O⟩
 case round=>
  clear d O;obtain⟨k,l,hk,rfl,z,Z,d,O⟩:=hrel;by_cases h0:k<n
  ·have d1:decide ((k:Int)<(n:Int))=true:=dT;have d2:decide (k<n)=true:=decide_eq_true h0;have ix:=fun W=>HIx.out W k h0
   have X:=HCx.out wr O k h0;have hb:=HB8.out k;have p:k/4<m:=by have:=V.out;omega
   have HSum:=hid (C.out k);have HV:=hid (show wd l (k/4)=fH t k (k/4)from Z.out _ p)
   have HB3:=hid (show fH t k (k/4)+wd t k*256^(k%4)<4294967296 from by
    have h1:=HSt.out (k+1) (k/4);rw[C.out,if_pos rfl]at h1;exact h1)
   obtain⟨q,hq⟩:=ξ (k%4);have HQ:=hid hq;have hq3:q<=3:=ω
   have eq4:(k:Int)%4=(q:Int):=ω;obtain⟨A,G⟩:=ξ (k/4);have ej4:(k:Int)/4=(A:Int):=ω
   have HJ:=hid G;rw[<-G]at p;clear hq G;have HBd:=hid hb;obtain⟨bv,H⟩:=ξ (wd t k);rw[<-H]at X hb;have HBv:=hid H;clear H;go_wp2;go_loopw[8,7] (fun i s wx=> ∃j v:Nat,j<=q/\i= .int .i64 j/\s= .int .u32 v/\Hid (v=bv*256^j)/\wx=wr) (fun i _ _=>q-(intOf i).toNat);case atStart=>exact⟨0,bv,Nat.zero_le _,rfl,rfl,hid (by rw[Nat.pow_zero,Nat.mul_one]),rfl⟩
   case round=>
    clear X ix;obtain⟨j,v,hj,rfl,rfl,T,rfl⟩:=hrel;by_cases D:j<q
    ·have d3:decide ((j:Int)<(q:Int))=true:=dT;have d4:decide (j<q)=true:=decide_eq_true D;obtain⟨p1,p2⟩:=zI hb D hq3;rw[<-T.out]at p1 p2;have HV2:=hid p2;clear p2;go_wp2;go_roundw;case rel=>exact⟨j+1,v*256,D,by simp,by simp,HV2,trivial⟩
     case measure=>exact μ
    ·obtain rfl:j=q:=ω
     have d3:decide ((j:Int)<(j:Int))=false:=dF;have d4:decide (j<j)=false:=dF;have sl:=d.sl (n:=m) (by rw[aD];exact z.out.symm) (Nat.le_trans (show m<=70000 by have:=V.out;omega) δ);have ix:=fun W=>sl.index 22 underlying22 aK W .i64 A p
     have X:=d.cell (i:=A) (by rw[z.out];exact p);have zx:=d.free A;obtain⟨f,L⟩: ∃x,x=wd l A:=⟨_,rfl⟩;rw[<-L]at X;have es:f=fH t k A:=by rw[L];exact Z.out _ p
     have ev:v=wd t k*256^(k%4):=(by rw[T.out,HBv.out,HQ.out]);have hlt:f+v<4294967296:=by rw[es,ev,HJ.out];exact HB3.out
     have hst:=d.store A ((f:Int)+(v:Int)) (f+v) ω
     have HW2:=hid (show∀j,j<m->wd (l.set A (f+v)) j=fH t (k+1) j from fun j hj=>by
      rw[cm (by rw[z.out];exact p),C.out];by_cases e:j=A
      ·rw[if_pos e,e,if_pos HJ.out,es,ev]
      ·rw[if_neg e,if_neg (by rw[<-HJ.out];exact e)];exact Z.out j hj)
     have HL2:=hid (show(l.set A (f+v)).length=m by rw[List.length_set];exact z.out);have hB2:=aw O HG.out (i:=A) (Ψ ((f:Int)+(v:Int)));clear es ev L sl;go_wp2;go_roundw;case rel=>exact⟨k+1,_,h0,by simp,HL2,HW2,hst,hB2⟩
     case measure=>exact μ
  ·obtain rfl:k=n:=ω
   have d1:decide ((k:Int)<(k:Int))=false:=dF;have d2:decide (k<k)=false:=dF;have e:=R.out l z.out Z.out;rw[e]at d;have HR:=hid d;clear e;go_wp2;go_ret;exact⟨⟨_,rfl,HG.out,HR.out⟩,O⟩
theorem gG{d:Array Oper}{Q:Exit->Act->World->Prop}{i:Nat}{o:Oper}{K:Act->World->Prop}{a:Act}{w:World}(t:d[i]? =some o)(m:o.guard=none)(p:o.op= .alloc 94)(h: ∀f g,Row f g 94 [I 0,I 0,I 0,Ψ 0,Ψ 0]->Below w w f->w.heap.size<=g->g<f.heap.size->K (a.put o.dst (E g)) f):wpOp prog d Q i K a w:=by
 refine cZ t m ?_;have b:=h (w.alloc (.cells #[I 0,I 0,I 0,Ψ 0,Ψ 0] 94)) w (by unfold Row;exact heap_alloc_new _ _) ((Below.refl _ _).alloc ι _) ι (by rw[World.size_alloc];omega);obtain⟨q,op,n,r,j,k⟩:=o;simp only at p m;subst p m;unfold Oper.wp;go_simp;exact b
section
variable {w:World} {G:RFoot} {h:Hp}
theorem sW(H:RefAt w G h)(o:Nat)(L:o<4294967296):Calls prog 96 #[E G.p,Ψ o] w fun e w'=>e= .returned (.bool (isO h o))/\w=w':=by
 obtain⟨A,B,C,c1,D,F,I,m,hs⟩:=H.cells;have a:=H.good.len;by_cases h0:o=0
 ·subst h0;rw[(φ:isO h 0=false)];clear H m hs a;go_enter func96,ntmps96;go_wp2;go_ret;exact⟨rfl,rfl⟩
 ·have p:((o:Int)==0)=false:=nE;have j:(o==0)=false:=nE
  by_cases h1:o%2=0
  ·obtain⟨i,rfl⟩: ∃i,o=2*i:=⟨o/2,ω⟩;have s:(((2*i:Nat):Int)%2==0)=true:=by rw[beq_iff_eq];omega
   have u:((2*i:Nat):Int)/2=(i:Int):=ω
   have f:isO h (2*i)=bi h i:=by
    unfold isO;rw[decide_eq_true h0,decide_eq_true h1,Nat.mul_div_cancel_left _ δ];rfl
   rw[f];obtain⟨r,d⟩:=ξ ((2*i:Nat):Int);rw[<-d]at p s u ⊢;have v:0<=r/\r<4294967296:=ω
   have q:(r != 0)=true:=(by rw[bne_iff_ne];rw[beq_eq_false_iff_ne]at p;exact p);by_cases g:i<h.ws.length
   ·have x:decide ((i:Int)<(h.ws.length:Int))=true:=dT;have y:decide (i<h.ws.length)=true:=decide_eq_true g;have c:=hs.cell g;rw[aJ (by rw[fC];omega),Db]at c;have k:bi h i=h.st.getD i false:=rfl;rw[<-k]at c;have z:=fun W=>hs.index 50 underlying50 y5 W .i64 i g
    generalize h.ws.length=n at*
    clear m hs H a g k h0 h1 j d f
    cases hbg:bi h i with
    |true=>
     rw[hbg]at c;replace c:w.cell? ⟨G.gb,i,none⟩=some (.int .u8 1):=c;clear hbg;go_enter func96,ntmps96;go_wp2;go_ret;exact⟨rfl,rfl⟩
    |false=>
     rw[hbg]at c;replace c:w.cell? ⟨G.gb,i,none⟩=some (.int .u8 0):=c;clear hbg;go_enter func96,ntmps96;go_wp2;go_ret;exact⟨rfl,rfl⟩
   ·have x:decide ((i:Int)<(h.ws.length:Int))=false:=dF;have y:decide (i<h.ws.length)=false:=decide_eq_false g
    have k:bi h i=false:=by
     unfold bi;rw[List.getD_eq_getElem?_getD,List.getElem?_eq_none ω];rfl
    rw[k];generalize h.ws.length=n at*
    clear m hs H a g k h0 h1 j d f;go_enter func96,ntmps96;go_wp2;go_ret;exact⟨rfl,rfl⟩
  ·have s:((o:Int)%2==0)=false:=nE;have q:((o:Int) != 0)=true:=by rw[bne_iff_ne];omega
   have f:isO h o=false:=(by unfold isO;rw[decide_eq_false h1];simp);rw[f];clear H m hs a h1 h0 f;go_enter func96,ntmps96;go_wp2;go_ret;exact⟨rfl,rfl⟩
theorem EF(H:RefAt w G h)(o:Nat)(f:o<4294967296):Calls prog 76 #[E G.p,Ψ o] w fun e w'=>e= .returned (.bool (dS h o))/\w=w':=by
 have a:=hid (sW H o f);by_cases h0:o=0
 ·subst h0;rw[(φ:dS h 0=true)];clear H a;go_enter func76,ntmps76;go_wp2;go_ret;exact⟨rfl,rfl⟩
 ·have g:((o:Int)==0)=false:=nE;have c:(o==0)=false:=nE
  by_cases h1:o%2=1
  ·have d:((o:Int)%2==1)=true:=(by rw[beq_iff_eq];omega);have e:dS h o=true:=by unfold dS;rw[decide_eq_true h1];simp
   rw[e];clear H a e h0 h1;go_enter func76,ntmps76;go_wp2;go_ret;exact⟨rfl,rfl⟩
  ·have d:((o:Int)%2==1)=false:=nE;have e:dS h o=isO h o:=by unfold dS;rw[decide_eq_false h1,decide_eq_false h0];rfl
   rw[e];generalize isO h o=b at*
   clear H e h0 h1;go_enter func76,ntmps76;go_wp2_with fail;refine(a.out).mono ?_;rintro e w1 ⟨rfl,rfl⟩;go_wp2;go_ret;exact⟨rfl,rfl⟩
theorem lZ(H:RefAt w G h)(o:Nat)(d:o<4294967296):Calls prog 46 #[E G.p,Ψ o] w fun e w'=>e= .returned (.bool (cU h o))/\w=w':=by
 have a:=hid (sW H o d);by_cases h0:o=0
 ·subst h0;rw[(φ:cU h 0=true)];clear H a;go_enter func46,ntmps46;go_wp2;go_ret;exact⟨rfl,rfl⟩
 ·have f:((o:Int)==0)=false:=nE;have c:(o==0)=false:=nE
  have e:cU h o=isO h o:=(by unfold cU;rw[decide_eq_false h0];rfl);rw[e];generalize isO h o=b at*
  clear H e h0;go_enter func46,ntmps46;go_wp2_with fail;refine(a.out).mono ?_;rintro e w1 ⟨rfl,rfl⟩;go_wp2;go_ret;exact⟨rfl,rfl⟩
theorem fy(H:RefAt w G h)(o:Nat)(ho:isO h o=true):Calls prog 122 #[E G.p,Ψ o] w fun e w'=>e= .returned (hdV (hdO h o))/\Below w w w':=by
 have he:=(isO_iff.1 ho).2.1;have olt:=aM H.good ho;obtain⟨i,rfl⟩: ∃i,o=2*i:=⟨o/2,ω⟩;have e1:2*i/2=i:=ω
 have F:bi h i=true:=by have:=(isO_iff.1 ho).2.2;rwa [e1]at this
 obtain⟨hok,hlt⟩:=H.good.ok _ F;have hin:=H.good.inside _ F;have ex:hdO h (2*i)=hd h i:=by unfold hdO;rw[e1]
 rw[ex];obtain⟨x,hx⟩:=ξ (hd h i);have w0e:wd h.ws i=x.w0:=by rw[hx];exact(Cf hlt).symm
 have w1e:wd h.ws (i+1)=x.cls:=by rw[hx];rfl
 have w2e:wd h.ws (i+2)=x.ser:=by rw[hx];rfl
 rw[<-hx]at hok ⊢;have HU:=hid (fun X=>B1 X x hok);obtain⟨cw,cb,r1,hw,hbk⟩:=H.row;have hsm:=H.small;have n3:i+2<h.ws.length:=ω
 generalize h.ws.length=n at*
 have e2:((2*i:Nat):Int)/2=(i:Int):=ω
 obtain⟨ob,hob⟩:=ξ ((2*i:Nat):Int);rw[<-hob]at e2 ⊢;have ob1:0<=ob/\ob<4294967296:=ω
 obtain⟨W,hW,r0,hB0,hz⟩:=aA w 94 [I 0,I 0,I 0,Ψ 0,Ψ 0];have HW:=hid hW;replace r1:=r1.below hB0 r1.lt;replace hw:=hw.below hB0;have hlt0:=r0.lt;obtain⟨g0,hg0⟩:=ξ w.heap.size;rw[<-hg0]at r0 hlt0;have HG0:=hid hg0;have hgw:g0≠G.gw:=fun e=>by have:=H.lt G.gw (by unfold RFoot.l;simp);omega
 have hgp:g0≠G.p:=fun e=>by have:=H.lt G.p (by unfold RFoot.l;simp);omega
 clear hx hok hlt hob hW hz hg0 hbk H hin e1 he olt ho F ex;have HHV:=hid (show hdV x= .agg #[I x.size,I x.fmt,I x.spare,Ψ x.cls,Ψ x.ser]from rfl);have a4:=HU.out;unfold w3V at a4;rw[HHV.out]at a4 ⊢;have a5:=hid a4;clear a4 HU;generalize x.w0=a0 at*
 generalize x.size=R at*
 generalize x.fmt=fm at*
 generalize x.spare=T at*
 generalize x.cls=O at*
 generalize x.ser=Q at*
 go_enter func122,ntmps122;go_wp2;rw[<-HW.out,<-HG0.out];have V:Below w w W.drew:=hB0.drew;have hX:Row W.drew G.p 52 [I h.size,M G.gw n cw,M G.gr 64 64,Ψ h.last,M G.gb n cb]/\Sl W.drew G.gw 25 n cw (aC .u32 h.ws):=⟨r1,hw⟩;have j:Row W.drew g0 94 [I 0,I 0,I 0,Ψ 0,Ψ 0]:=r0;have f:g0<W.drew.heap.size:=hlt0;clear r1 hw r0 hB0 HW;refine wp_region_held (S:=fun Y=>Row Y G.p 52 [I h.size,M G.gw n cw,M G.gr 64 64,Ψ h.last,M G.gb n cb]/\Sl Y G.gw 25 n cw (aC .u32 h.ws)) κ ?_;refine tk 0 (E G.p) ?_;refine tk 1 (E G.p) ?_;refine tk 2 (Θ G.p 1) ?_;refine tk 3 (M G.gw n cw) ?_ (y:=fun X hX=>by have q:=hX.1.ae 1;simp only[yB,yC]at q;go_simp);refine tk 4 (I i) ?_;refine tk 5 (Θ G.gw i) ?_ (y:=fun X hX=>by have ix:=hX.2.index (P:=prog) 22 underlying22 aK X .i64 i ω;go_simp);refine tk 6 (Ψ a0) ?_ (y:=fun X hX=>by have cx:=hX.2.cell (i:=i) ω;rw[aJ (by have:=hX.2.len;rw[aD]at this;omega),w0e]at cx;go_simp);refine tk 7 (E G.p) ?_;refine tk 8 (E G.p) ?_;refine tk 9 (Θ G.p 1) ?_;refine tk 10 (M G.gw n cw) ?_ (y:=fun X hX=>by have q:=hX.1.ae 1;simp only[yB,yC]at q;go_simp);refine tk 11 (I i) ?_;refine tk 12 (I ((i:Int)+1)) ?_ (y:=fun X hX=>by go_simp;(first |done|exact aF ω ω|omega));refine tk 13 (Θ G.gw (i+1)) ?_ (y:=fun X hX=>by have ix:(Instr.indexAt 22 (M G.gw n cw) (I ((i:Int)+1))).run prog X= .ok (Θ G.gw (i+1)) X:=(by have:=hX.2.index (P:=prog) 22 underlying22 aK X .i64 (i+1) ω;rw[Int.natCast_add]at this;exact this);go_simp);refine tk 14 (Ψ O) ?_ (y:=fun X hX=>by have cx:=hX.2.cell (i:=i+1) ω;rw[aJ (by have:=hX.2.len;rw[aD]at this;omega),w1e]at cx;go_simp);refine tk 15 (E G.p) ?_;refine tk 16 (E G.p) ?_;refine tk 17 (Θ G.p 1) ?_;refine tk 18 (M G.gw n cw) ?_ (y:=fun X hX=>by have q:=hX.1.ae 1;simp only[yB,yC]at q;go_simp);refine tk 19 (I i) ?_;refine tk 20 (I ((i:Int)+2)) ?_ (y:=fun X hX=>by go_simp;(first |done|exact aF ω ω|omega));refine tk 21 (Θ G.gw (i+2)) ?_ (y:=fun X hX=>by have ix:(Instr.indexAt 22 (M G.gw n cw) (I ((i:Int)+2))).run prog X= .ok (Θ G.gw (i+2)) X:=(by have:=hX.2.index (P:=prog) 22 underlying22 aK X .i64 (i+2) ω;rw[Int.natCast_add]at this;exact this);go_simp);refine tk 22 (Ψ Q) ?_ (y:=fun X hX=>by have cx:=hX.2.cell (i:=i+2) ω;rw[aJ (by have:=hX.2.len;rw[aD]at this;omega),w2e]at cx;go_simp);refine tk 23 (.agg #[Ψ a0,Ψ O,Ψ Q]) ?_;refine wpAnyH_all (rs:=[24,28]) κ δ (fun i hi=>?_);simp only[List.mem_cons,List.not_mem_nil,or_false]at hi;rcases hi with rfl|rfl
 ·unfold wpOp;go_simp;refine .inl ((a5.out _).mono ?_);rintro e X1 ⟨rfl,F⟩;replace hX:=(⟨hX.1.below F hX.1.lt,hX.2.below F⟩:_/\_);replace V:=τ V F;replace j:=j.below F f;replace f:=Nat.lt_of_lt_of_le f F.size;(try replace L:=L.below F L.lt);clear F;refine⟨hX,?_⟩;refine tk 25 (.tuple #[.agg #[I R,I fm,I T,Ψ O,Ψ Q],.bool true]) ?_;refine tk 26 (.agg #[I R,I fm,I T,Ψ O,Ψ Q]) ?_;refine tk 27 (.bool true) ?_;refine wo 28 ?_;refine gG (o:=_) rfl rfl rfl (fun X2 k L F U a3=>?_);have z:k≠g0:=fun e=>by rw[e]at U;exact Nat.lt_irrefl _ (Nat.lt_of_lt_of_le f U)
  have A:w.heap.size<=k:=Nat.le_trans V.size U;replace hX:=(⟨hX.1.below F hX.1.lt,hX.2.below F⟩:_/\_);replace V:=τ V F;replace j:=j.below F f;replace f:=Nat.lt_of_lt_of_le f F.size;clear F a3 U;refine⟨hX,?_⟩;simp only[Act.put,zA,zB,zC];refine wo 29 ?_;have B:G.p≠k:=(hX.1).ne L δ;have D:G.gw≠k:=by obtain⟨_,rr⟩:=hX.2.row;exact rr.ne L δ
  obtain⟨q0,q1,q2,q3,q4⟩:=L.cells5;have z0:=L.free 0;have z1:=L.free 1;have z2:=L.free 2;have z3:=L.free 3;have z4:=L.free 4;have HX:=hid hX;clear hX;unfold wpOp;go_simp;have hX:=HX.out;have a1:=(((((hX.1.other (a:=⟨k,0,none⟩) B (I R)).other (a:=⟨k,1,none⟩) B (I fm)).other (a:=⟨k,2,none⟩) B (I T)).other (a:=⟨k,3,none⟩) B (Ψ O)).other (a:=⟨k,4,none⟩) B (Ψ Q));have a2:=(((((hX.2.other (a:=⟨k,0,none⟩) D (I R)).other (a:=⟨k,1,none⟩) D (I fm)).other (a:=⟨k,2,none⟩) D (I T)).other (a:=⟨k,3,none⟩) D (Ψ O)).other (a:=⟨k,4,none⟩) D (Ψ Q));replace hX:=(⟨a1,a2⟩:_/\_);refine .inl ⟨hX,?_⟩;refine tk 30 (.bool true) ?_;refine wpAnyH_done κ ?_ _;replace j:=(((((j.other (a:=⟨k,0,none⟩) (Ne.symm z) (I R)).other (a:=⟨k,1,none⟩) (Ne.symm z) (I fm)).other (a:=⟨k,2,none⟩) (Ne.symm z) (I T)).other (a:=⟨k,3,none⟩) (Ne.symm z) (Ψ O)).other (a:=⟨k,4,none⟩) (Ne.symm z) (Ψ Q));replace L:=(((((L.af 0 (I R)).af 1 (I fm)).af 2 (I T)).af 3 (Ψ O)).af 4 (Ψ Q));replace V:=(aw (i:=4) (aw (i:=3) (aw (i:=2) (aw (i:=1) (aw (i:=0) V A (I R)) A (I fm)) A (I T)) A (Ψ O)) A (Ψ Q));obtain⟨p0,p1,p2,p3,p4⟩:=Row.cells5 L;obtain⟨q0,q1,q2,q3,q4⟩:=Row.cells5 j;have z0:=j.free 0;have z1:=j.free 1;have z2:=j.free 2;have z3:=j.free 3;have z4:=j.free 4;have rr:=(((((j.af 0 (I R)).af 1 (I fm)).af 2 (I T)).af 3 (Ψ O)).af 4 (Ψ Q));obtain⟨f0,f1,f2,f3,f4⟩:=Row.cells5 rr;clear hX a1 a2 HX a5 j L w0e w1e w2e rr;generalize(((((X2.setCell ⟨k,0,none⟩ (I R)).setCell ⟨k,1,none⟩ (I fm)).setCell ⟨k,2,none⟩ (I T)).setCell ⟨k,3,none⟩ (Ψ O)).setCell ⟨k,4,none⟩ (Ψ Q))=Z at*
  go_wp2;refine bodyPost_ret (v:= .agg #[I R,I fm,I T,Ψ O,Ψ Q]) (by simp[results,results122,go_sem,f0,f1,f2,f3,f4]) rfl ⟨rfl,?_⟩;have N:w.heap.size<=g0:=by rw[HG0.out];exact Nat.le_refl _
  exact aw (aw (aw (aw (aw V N _) N _) N _) N _) N _
 ·refine gG (o:=_) rfl rfl rfl (fun X4 k L F U a3=>?_);have z:k≠g0:=fun e=>by rw[e]at U;exact Nat.lt_irrefl _ (Nat.lt_of_lt_of_le f U)
  have A:w.heap.size<=k:=Nat.le_trans V.size U;replace hX:=(⟨hX.1.below F hX.1.lt,hX.2.below F⟩:_/\_);replace V:=τ V F;replace j:=j.below F f;replace f:=Nat.lt_of_lt_of_le f F.size;clear F a3 U;refine⟨hX,?_⟩;simp only[Act.put,zA,zB,zC];refine wo 24 ?_;unfold wpOp;go_simp;refine .inl ((a5.out _).mono ?_);rintro e X5 ⟨rfl,F⟩;replace hX:=(⟨hX.1.below F hX.1.lt,hX.2.below F⟩:_/\_);replace V:=τ V F;replace j:=j.below F f;replace f:=Nat.lt_of_lt_of_le f F.size;(try replace L:=L.below F L.lt);clear F;refine⟨hX,?_⟩;refine tk 25 (.tuple #[.agg #[I R,I fm,I T,Ψ O,Ψ Q],.bool true]) ?_;refine tk 26 (.agg #[I R,I fm,I T,Ψ O,Ψ Q]) ?_;refine tk 27 (.bool true) ?_;refine wo 29 ?_;have B:G.p≠k:=(hX.1).ne L δ;have D:G.gw≠k:=by obtain⟨_,rr⟩:=hX.2.row;exact rr.ne L δ
  obtain⟨q0,q1,q2,q3,q4⟩:=L.cells5;have z0:=L.free 0;have z1:=L.free 1;have z2:=L.free 2;have z3:=L.free 3;have z4:=L.free 4;have HX:=hid hX;clear hX;unfold wpOp;go_simp;have hX:=HX.out;have a1:=(((((hX.1.other (a:=⟨k,0,none⟩) B (I R)).other (a:=⟨k,1,none⟩) B (I fm)).other (a:=⟨k,2,none⟩) B (I T)).other (a:=⟨k,3,none⟩) B (Ψ O)).other (a:=⟨k,4,none⟩) B (Ψ Q));have a2:=(((((hX.2.other (a:=⟨k,0,none⟩) D (I R)).other (a:=⟨k,1,none⟩) D (I fm)).other (a:=⟨k,2,none⟩) D (I T)).other (a:=⟨k,3,none⟩) D (Ψ O)).other (a:=⟨k,4,none⟩) D (Ψ Q));replace hX:=(⟨a1,a2⟩:_/\_);refine .inl ⟨hX,?_⟩;refine tk 30 (.bool true) ?_;refine wpAnyH_done κ ?_ _;replace j:=(((((j.other (a:=⟨k,0,none⟩) (Ne.symm z) (I R)).other (a:=⟨k,1,none⟩) (Ne.symm z) (I fm)).other (a:=⟨k,2,none⟩) (Ne.symm z) (I T)).other (a:=⟨k,3,none⟩) (Ne.symm z) (Ψ O)).other (a:=⟨k,4,none⟩) (Ne.symm z) (Ψ Q));replace L:=(((((L.af 0 (I R)).af 1 (I fm)).af 2 (I T)).af 3 (Ψ O)).af 4 (Ψ Q));replace V:=(aw (i:=4) (aw (i:=3) (aw (i:=2) (aw (i:=1) (aw (i:=0) V A (I R)) A (I fm)) A (I T)) A (Ψ O)) A (Ψ Q));obtain⟨p0,p1,p2,p3,p4⟩:=Row.cells5 L;obtain⟨q0,q1,q2,q3,q4⟩:=Row.cells5 j;have z0:=j.free 0;have z1:=j.free 1;have z2:=j.free 2;have z3:=j.free 3;have z4:=j.free 4;have rr:=(((((j.af 0 (I R)).af 1 (I fm)).af 2 (I T)).af 3 (Ψ O)).af 4 (Ψ Q));obtain⟨f0,f1,f2,f3,f4⟩:=Row.cells5 rr;clear hX a1 a2 HX a5 j L w0e w1e w2e rr;generalize(((((X5.setCell ⟨k,0,none⟩ (I R)).setCell ⟨k,1,none⟩ (I fm)).setCell ⟨k,2,none⟩ (I T)).setCell ⟨k,3,none⟩ (Ψ O)).setCell ⟨k,4,none⟩ (Ψ Q))=Z at*
  go_wp2;refine bodyPost_ret (v:= .agg #[I R,I fm,I T,Ψ O,Ψ Q]) (by simp[results,results122,go_sem,f0,f1,f2,f3,f4]) rfl ⟨rfl,?_⟩;have N:w.heap.size<=g0:=by rw[HG0.out];exact Nat.le_refl _
  exact aw (aw (aw (aw (aw V N _) N _) N _) N _) N _
end
section
variable {w:World} {G:RFoot} {h:Hp}
theorem j8(x:Hd):hdV x= .agg #[I x.size,I x.fmt,I x.spare,Ψ x.cls,Ψ x.ser]:=rfl
theorem okO(k:Limb.Good h){o:Nat}(a:isO h o=true):(hdO h o).Ok:=(k.ok _ (isO_iff.1 a).2.2).1
theorem eZ(V:World)(a b c d e:Value):(Instr.field 94 (.agg #[a,b,c,d,e]) 0).run prog V= .ok a V/\(Instr.field 94 (.agg #[a,b,c,d,e]) 1).run prog V= .ok b V/\(Instr.field 94 (.agg #[a,b,c,d,e]) 3).run prog V= .ok d V:=
 ⟨κ,κ,κ⟩
theorem xV(H:RefAt w G h)(o:Nat)(d:isO h o=true):Calls prog 152 #[E G.p,Ψ o] w fun e w'=>e= .returned (I (hdO h o).len)/\Below w w w':=by
 have b:=fy H o d;have k:=okO H.good d;have r:=k.size;have t:=k.spare;have p:=k.sp;rw[j8]at b;generalize hdO h o=x at*
 have f:=hid b;by_cases a:x.fmt=2
 ·have e:x.len=4*x.size-x.spare:=(by unfold Hd.len;rw[if_pos a]);rw[e];rw[a]at f;have u:4*(x.size:Int)-(x.spare:Int)=((4*x.size-x.spare:Nat):Int):=ω
  generalize x.size=i at*
  generalize x.spare=j at*
  clear b k H d e a p;go_enter func152,ntmps152;go_wp2_with fail;refine(f.out).mono ?_;rintro e V ⟨rfl,hB⟩;have g:=hB.alloc hB.size (.cells #[I i,I (2:Nat),I j,Ψ x.cls,Ψ x.ser] 94);go_wp2;go_ret;exact⟨rfl,g⟩
 ·have e:x.len=x.size:=(by unfold Hd.len;rw[if_neg a]);rw[e];have q:((x.fmt:Int)==2)=false:=nE
  have v:(x.fmt==2)=false:=(by rw[beq_eq_false_iff_ne];exact a);generalize x.size=i at*
  generalize x.spare=j at*
  generalize x.fmt=fm at*
  clear b k H d e a p;go_enter func152,ntmps152;go_wp2_with fail;refine(f.out).mono ?_;rintro e V ⟨rfl,hB⟩;have g:=hB.alloc hB.size (.cells #[I i,I fm,I j,Ψ x.cls,Ψ x.ser] 94);go_wp2;go_ret;exact⟨rfl,g⟩
theorem xZ(H:RefAt w G h)(o f i:Nat)(g:isO h o=true)(hf:(hdO h o).fmt=f)(P:i<(hdO h o).len):Calls prog 75 #[E G.p,Ψ o,I f,I i] w fun e w'=>e=Rt #[I (o/2+3+(if f=2 then i/4 else i):Nat),I 0]/\Below w w w':=by
 have u:=aM H.good g;have k:=okO H.good g;have C:=k.size;have D:=k.f4
 have F:i<=300000:=by
  have:(hdO h o).len<=4*(hdO h o).size:=(by unfold Hd.len;split<;>omega);omega
 have v:=sW H o u;rw[g]at v;have a:=fun X (c:Below w w X)=>fy (H.below c) o g
 have j:=fun X (c:Below w w X)=>xV (H.below c) o g
 have Q:(o:Int)/2=((o/2:Nat):Int):=ω
 generalize hdO h o=x at*
 simp only[j8]at a;rw[hf]at a D;generalize x.len=B at*
 have R:decide ((i:Int)<0)=false:=dF;have S:decide ((B:Int)<=(i:Int))=false:=dF;have L:decide (B<=i)=false:=dF;have y:=hid v;have p:=hid a;have r:=hid j;have A:o/2<=2147483648:=ω
 generalize o/2=Y at*
 clear v a j k H g hf C P;by_cases d:f=2
 ·subst d;rw[if_pos rfl];have T:(i:Int)/4=((i/4:Nat):Int):=ω
  have M:i/4<=300000:=ω;generalize i/4=Z at*
  have N:=fun V=>(eZ V (I x.size) (I 2) (I x.spare) (Ψ x.cls) (Ψ x.ser)).2.1
  go_enter func75,ntmps75;go_wp2_with fail;refine(y.out).mono ?_;rintro e w1 ⟨rfl,rfl⟩;go_wp2_with fail;refine(p.out _ (Below.refl _ _)).mono ?_;rintro e V ⟨rfl,b⟩;go_wp2_with fail;refine(r.out _ b).mono ?_;rintro e O ⟨rfl,c⟩;replace b:=τ b c;clear c;go_wp2;go_ret2;exact⟨rfl,b⟩
 ·rw[if_neg d];have q:((f:Int)==2)=false:=nE
  have U:(f==2)=false:=(by rw[beq_eq_false_iff_ne];exact d);have N:=fun V=>(eZ V (I x.size) (I f) (I x.spare) (Ψ x.cls) (Ψ x.ser)).2.1
  go_enter func75,ntmps75;go_wp2_with fail;refine(y.out).mono ?_;rintro e w1 ⟨rfl,rfl⟩;go_wp2_with fail;refine(p.out _ (Below.refl _ _)).mono ?_;rintro e V ⟨rfl,b⟩;go_wp2_with fail;refine(r.out _ b).mono ?_;rintro e O ⟨rfl,c⟩;replace b:=τ b c;clear c;go_wp2;go_ret2;exact⟨rfl,b⟩
end
section
variable {w:World} {G:RFoot} {h:Hp}
theorem RefAt.putW(H:RefAt w G h){k v:Nat}(j:k<h.ws.length)(m:Limb.Good (Limb.putW h k v)):RefAt (w.setCell ⟨G.gw,k,none⟩ (Ψ (v:Nat))) G (Limb.putW h k v):=by
 obtain⟨c,d,f,g,i⟩:=H.row;obtain⟨n,o,p,q,r,u⟩:=H.apart;have a:Only [G.gw] w (w.setCell ⟨G.gw,k,none⟩ (Ψ (v:Nat))):=(Only.refl _ _).setCell (by simp) _;have b:(Limb.putW h k v).ws.length=h.ws.length:=ie h k v;refine⟨m,⟨c,d,?_,?_,?_⟩,H.roots.only a (by simp;omega),H.low⟩
 ·rw[b];exact f.only a (by simp;omega)
 ·rw[b];have:=g.store j (Ψ (v:Nat))
  rwa [<-i6]at this
 ·rw[b];exact i.only a (by simp;omega)
theorem RefAt.setR(H:RefAt w G h){k v:Nat}(i:Limb.Good (Limb.setR h k v)):RefAt (w.setCell ⟨G.gr,k,none⟩ (Ψ (v:Nat))) G (Limb.setR h k v):=by
 obtain⟨b,c,d,f,g⟩:=H.row;obtain⟨j,m,n,o,p,q⟩:=H.apart;have a:Only [G.gr] w (w.setCell ⟨G.gr,k,none⟩ (Ψ (v:Nat))):=(Only.refl _ _).setCell (by simp) _;exact⟨i,⟨b,c,d.only a (by simp;omega),f.only a (by simp;omega),g.only a (by simp;omega)⟩,H.roots.store k v v rfl,H.low⟩
theorem xX(G:RFoot):G.gw∈G.l:=by unfold RFoot.l;simp
theorem D2(G:RFoot):G.gr∈G.l:=by unfold RFoot.l;simp
theorem vU(G:RFoot):G.p∈G.l:=by unfold RFoot.l;simp
theorem E2(G:RFoot):G.gb∈G.l:=by unfold RFoot.l;simp
theorem RStep.putW(H:RefAt w G h){k v:Nat}(a:k<h.ws.length)(b:Limb.Good (Limb.putW h k v)):RStep w G (w.setCell ⟨G.gw,k,none⟩ (Ψ (v:Nat))) G (Limb.putW h k v):=
 ⟨H.putW a b,RFoot.Next.refl _ _,(Only.refl _ _).setCell (xX G) _⟩
theorem RStep.setR(H:RefAt w G h){k v:Nat}(a:Limb.Good (Limb.setR h k v)):RStep w G (w.setCell ⟨G.gr,k,none⟩ (Ψ (v:Nat))) G (Limb.setR h k v):=
 ⟨H.setR a,RFoot.Next.refl _ _,(Only.refl _ _).setCell (D2 G) _⟩
theorem RStep.same(H:RefAt w G h){w':World}(a:Below w w w'):RStep w G w' G h:=(RStep.refl H).below a
theorem RefAt.at(H:RefAt w G h){k:Nat}(c:k<h.ws.length): ∃a,w.cell? ⟨G.p,1,none⟩=O (M G.gw h.ws.length a)/\w.cell? ⟨G.gw,k,none⟩=O (Ψ (wd h.ws k:Nat))/\w.frozen? ⟨G.gw,k,none⟩=false/\∀W,(Instr.indexAt 22 (M G.gw h.ws.length a) (I k)).run prog W= .ok (Θ G.gw k) W:=by
 obtain⟨a,e,f,c1,g,i,j,b,hs⟩:=H.cells;have d:=b.cell c;rw[aJ c]at d;exact⟨a,c1,d,b.free k,fun W=>b.index 22 underlying22 aK W .i64 k c⟩
theorem Ei{o f i:Nat}(hf:isF h o f (i+1)=true)(d:f≠2):isO h o=true/\(hdO h o).fmt=f/\i<(hdO h o).len:=by
 obtain⟨a,b,c⟩:=isF_iff.1 hf;exact⟨a,b,by rw[fr (by rw[b];exact d)];omega⟩
theorem iH(H:RefAt w G h){o f i:Nat}(hf:isF h o f (i+1)=true)(d:f≠2):Calls prog 75 #[E G.p,Ψ o,I f,I i] w fun e w'=>e=Rt #[I (o/2+3+i:Nat),I 0]/\Below w w w':=by
 obtain⟨a,b,c⟩:=Ei hf d;have:=xZ H o f i a b c;rw[if_neg d]at this;exact this
theorem FK(H:RefAt w G h){o i:Nat}(hf:isF h o 1 (i+1)=true):Calls prog 223 #[E G.p,Ψ o,I i] w fun e w'=>e=Rt #[Ψ (fld h o i:Nat),I 0]/\Below w w w':=by
 have f:=hid (iH H hf δ);have c:=oQ H.good hf;have d:=hid (fun X (j:Below w w X)=>(H.below j).at c);have b:fld h o i=wd h.ws (o/2+3+i):=rfl;rw[b];generalize o/2+3+i=g at*
 clear hf b H;go_enter func223,ntmps223;go_wp2_with fail;refine(f.out).mono ?_;rintro e V ⟨rfl,hB⟩;obtain⟨k,c1,l,p,q⟩:=d.out V hB;go_wp2;go_ret2;exact⟨rfl,hB⟩
theorem Fa(H:RefAt w G h){o i:Nat}(hf:isF h o 3 (i+1)=true):Calls prog 123 #[E G.p,Ψ o,I i] w fun e w'=>e=Rt #[Ψ (fld h o i:Nat),I 0]/\Below w w w':=by
 have f:=hid (iH H hf δ);have c:=oQ H.good hf;have d:=hid (fun X (j:Below w w X)=>(H.below j).at c);have b:fld h o i=wd h.ws (o/2+3+i):=rfl;rw[b];generalize o/2+3+i=g at*
 clear hf b H;go_enter func123,ntmps123;go_wp2_with fail;refine(f.out).mono ?_;rintro e V ⟨rfl,hB⟩;obtain⟨k,c1,l,p,q⟩:=d.out V hB;go_wp2;go_ret2;exact⟨rfl,hB⟩
theorem BZ(H:RefAt w G h){o i v:Nat}(hf:isF h o 1 (i+1)=true)(l:dS h v=true)(d:v<4294967296):Calls prog 27 #[E G.p,Ψ o,I i,Ψ v] w fun e w'=>e= .returned (I 0)/\RStep w G w' G (Limb.putF h o i v):=by
 have p:=hid (iH H hf δ);have c:=oQ H.good hf;have k:=fq H.good hf δ d;have f:=fun X (b:Below w w X)=>EF (H.below b) v d
 rw[l]at f;have q:=hid f;have g:=hid (fun X (b:Below w w X)=>(H.below b).at c);have j:=hid (fun X (b:Below w w X)=>show RStep w G (X.setCell ⟨G.gw,o/2+3+i,none⟩ (Ψ (v:Nat))) G (Limb.putF h o i v)from RStep.of_below b (RStep.putW (H.below b) c k) H.lt);generalize Limb.putF h o i v=B at*
 generalize o/2+3+i=s at*
 clear hf k f H l;go_enter func27,ntmps27;go_wp2_with fail;refine(p.out).mono ?_;rintro e V ⟨rfl,hB⟩;go_wp2_with fail;refine(q.out _ hB).mono ?_;rintro e A ⟨rfl,rfl⟩;obtain⟨u,c1,x,y,z⟩:=g.out V hB;have r:=hid (j.out V hB);go_wp2;go_ret;exact⟨rfl,r.out⟩
theorem zR(H:RefAt w G h){o i v:Nat}(hf:isF h o 3 (i+1)=true)(g:v<4294967296):Calls prog 43 #[E G.p,Ψ o,I i,Ψ v] w fun e w'=>e= .returned (I 0)/\RStep w G w' G (Limb.putF h o i v):=by
 have k:=hid (iH H hf δ);have b:=oQ H.good hf;have j:=fq H.good hf δ g;have d:=hid (fun X (c:Below w w X)=>(H.below c).at b);have f:=hid (fun X (c:Below w w X)=>show RStep w G (X.setCell ⟨G.gw,o/2+3+i,none⟩ (Ψ (v:Nat))) G (Limb.putF h o i v)from RStep.of_below c (RStep.putW (H.below c) b j) H.lt);generalize Limb.putF h o i v=x at*
 generalize o/2+3+i=p at*
 clear hf j H;go_enter func43,ntmps43;go_wp2_with fail;refine(k.out).mono ?_;rintro e V ⟨rfl,hB⟩;obtain⟨q,c1,r,s,u⟩:=d.out V hB;have l:=hid (f.out V hB);go_wp2;go_ret;exact⟨rfl,l.out⟩
theorem xb(H:RefAt w G h){o c:Nat}(d:isO h o=true)(k:cU h c=true):Calls prog 70 #[E G.p,Ψ o,Ψ c] w fun e w'=>e= .returned (I 0)/\RStep w G w' G (Limb.setC h o c):=by
 have f:=aM H.good d;have a:=eB H.good k;have g:=sW H o f;rw[d]at g;have i:=lZ H c a;rw[k]at i;have p:=hid g;have q:=hid i;have j:=(isO_iff.1 d).2.2;have b:o/2+1<h.ws.length:=by have:=H.good.inside _ j;omega
 have l:=H.good.setC j a;obtain⟨y,c1,z,A,s⟩:=H.at b;have r:=hid (show RStep w G (w.setCell ⟨G.gw,o/2+1,none⟩ (Ψ (c:Nat))) G (Limb.setC h o c)from RStep.putW H b l);have v:(o:Int)/2=((o/2:Nat):Int):=ω
 have x:o/2<=2147483648:=ω
 rw[Int.natCast_add,(φ:((1:Nat):Int)=1)]at s;generalize Limb.setC h o c=B at*
 generalize o/2=u at*
 clear g i j l H d k;go_enter func70,ntmps70;go_wp2_with fail;refine(p.out).mono ?_;rintro e t ⟨rfl,rfl⟩;go_wp2_with fail;refine(q.out).mono ?_;rintro e t ⟨rfl,rfl⟩;go_wp2;go_ret;exact⟨rfl,r.out⟩
theorem Fy(w:World)(n:Nat)(h1:64<=n)(X:n<=1048576)(h5:5<=w.heap.size):Calls prog 23 #[I n] w fun e w'=> ∃G,e= .returned (E G.p)/\RefAt w' G (cG n)/\Below w w w'/\∀g∈G.l,w.heap.size<=g:=by
 obtain⟨W,C,f,z,P⟩:=aA w 25 [Ψ 0];have F:=hid C;have Y:decide ((n:Int)<64)=false:=dF;have H:decide (n<64)=false:=dF;have Z:decide ((1048576:Int)<(n:Int))=false:=dF;have L:decide (1048576<n)=false:=dF;clear C;go_enter func23,ntmps23;go_wp2_with(at_make;rw[<-F.out];refine aI rfl _ _ _ rfl 26 (Ψ 0) 4 underlying44 go rfl _ _ _ _ 64 64 rfl rfl rfl rfl δ δ δ ?_;intro w1 g T q d u);obtain⟨V,Q,p,m,A⟩:=aA w1 5 [.int .u8 0];rw[q]at p;obtain⟨U,R,D,j,S⟩:=aA V 52 [I n,M w 1 1,M g 64 64,Ψ 0,M (g+1) 1 1];rw[A,q]at D;have k:=u;replace f:=((f.below k f.lt).below m (f.below k f.lt).lt);replace f:=f.below j f.lt;replace p:=p.below j p.lt;replace d:=d.below m d.lt;replace d:=d.below j d.lt;have y:Below w w U:=((z.trans (k.mono ω)).trans (m.mono ω)).trans (j.mono ω);have N:=hid (show U=(w1.alloc (.cells #[.int .u8 0] 5)).alloc (.cells #[I n,M w 1 1,M g 64 64,Ψ 0,M (g+1) 1 1] 52) by rw[R,Q])
 have O:RefAt U ⟨g+1+1,w,g+1,g⟩ (cG n):=by
  refine⟨dC h1 X,⟨1,1,D,⟨[Ψ 0],f,rfl,rfl,Nat.le_refl _,δ,rfl⟩,⟨[.int .u8 0],p,rfl,rfl,Nat.le_refl _,δ,rfl⟩⟩,?_,?_⟩
  ·show Row U g _ (aC .u32 (List.replicate 64 0))
   rw[aG];exact d
  ·show 5<=g+1+1/\5<=w.heap.size/\5<=g+1/\5<=g
   omega
 refine bodyPost_ret (v:=E (g+1+1)) (by simp[results,results23,go_sem]) rfl ?_;rw[<-N.out];refine⟨⟨g+1+1,w,g+1,g⟩,rfl,O,y,fun x B=>?_⟩;unfold RFoot.l at B;simp only[List.mem_cons,List.not_mem_nil,or_false]at B;rcases B with rfl|rfl|rfl|rfl<;>omega
end
theorem Ck:(prog.info? 5).map (fun i=>(i.zero,i.size,i.bytes))=some (some (.int .u8 0),1,1):=κ
structure RMid (w:World) (G:RFoot) (h:Hp) (la:Nat) (ws:List Nat) (gw cw:Nat) (bk:List Nat) (gb cb:Nat) (X:World):Prop where
 p:Row X G.p 52 [I h.size,M gw ws.length cw,M G.gr 64 64,Ψ la,M gb bk.length cb]
 ws:Sl X gw 25 ws.length cw (aC .u32 ws)
 bk:Sl X gb 5 bk.length cb (aC .u8 bk)
 rt:Row X G.gr 26 (aC .u32 h.rt)
 w1:gw=G.gw∨w.heap.size<=gw
 b1:gb=G.gb∨w.heap.size<=gb
 only:Only G.l w X
section
variable {w X Y:World} {G:RFoot} {h:Hp} {la gw cw gb cb:Nat} {ws bk:List Nat}
theorem RMid.below(m:RMid w G h la ws gw cw bk gb cb X)(a:Below X X Y):RMid w G h la ws gw cw bk gb cb Y:=
 ⟨m.p.below a m.p.lt,m.ws.below a,m.bk.below a,m.rt.below a m.rt.lt,m.w1,m.b1,m.only.trans (qs:=[]) (Only.of_below a) (fun q b=>by cases b)⟩
theorem RMid.start(H:RefAt w G h): ∃cw cb,RMid w G h h.last h.ws G.gw cw (fu h.st) G.gb cb w:=by
 obtain⟨cw,cb,c,d,b⟩:=H.row;have e:(fu h.st).length=h.ws.length:=by rw[fC];exact H.good.len
 rw[<-e]at b;have a:=c;rw[show Value.slice (some ⟨G.gb,0,none⟩) h.ws.length cb= .slice (some ⟨G.gb,0,none⟩) (fu h.st).length cb by rw[e]]at a;exact⟨cw,cb,a,d,b,H.roots,.inl rfl,.inl rfl,Only.refl _ _⟩
theorem RMid.apart(m:RMid w G h la ws gw cw bk gb cb X):G.p≠gw/\G.p≠gb/\G.p≠G.gr/\gw≠gb/\gw≠G.gr/\gb≠G.gr:=by
 obtain⟨_,a⟩:=m.ws.row;obtain⟨_,b⟩:=m.bk.row;exact⟨m.p.ne a δ,m.p.ne b δ,m.p.ne m.rt δ,a.ne b δ,a.ne m.rt δ,b.ne m.rt δ⟩
theorem RMid.serial(m:RMid w G h la ws gw cw bk gb cb X)(a:Nat):RMid w G h a ws gw cw bk gb cb (X.setCell ⟨G.p,3,none⟩ (Ψ a)):=by
 obtain⟨b,c,d,e,f,g⟩:=m.apart;exact⟨m.p.af 3 _,m.ws.other (by exact b.symm) _,m.bk.other (by exact c.symm) _,m.rt.other (by exact d.symm) _,m.w1,m.b1,m.only.setCell (vU G) _⟩
theorem RMid.growW{a:List Nat}{n:Nat}{v:Value}(m:RMid w G h la ws gw cw bk gb cb X)(D:Grew X Y gw 25 (ws.length+n) v (aC .u32 ws++aC .u32 a))(E:a.length=n): ∃b d,v= .slice (some ⟨b,0,none⟩) (ws.length+n) d/\RMid w G h la (ws++a) b d bk gb cb (Y.setCell ⟨G.p,1,none⟩ v)/\Row Y G.p 52 [I h.size,M gw ws.length cw,M G.gr 64 64,Ψ la,M gb bk.length cb]/\Only [gw] X Y:=by
 obtain⟨y,z,A,B,C,F⟩:=m.apart;obtain⟨b,d,rfl,hs,j,c⟩:=D;have f:=m.p.only c (by simp;exact y);have r:=m.bk.only c (by simp;exact B.symm);have s:=m.rt.only c (by simp;exact C.symm);obtain⟨_,k⟩:=hs.row;have u:G.p≠b:=f.ne k δ;have x:G.p≠gb:=z;have o:(ws++a).length=ws.length+n:=by rw[List.length_append,E]
 have i:Only G.l w Y:=m.only.trans c (fun q p=>by
  rw[List.mem_singleton]at p;subst p;rcases m.w1 with e|e
  ·exact .inl (by rw[e];exact xX G)
  ·exact .inr e)
 refine⟨b,d,rfl,⟨?_,?_,r.other (by exact x.symm) _,s.other (by exact A.symm) _,?_,m.b1,i.setCell (vU G) _⟩,f,c⟩
 ·rw[o];exact f.af 1 _
 ·rw[o,bw];exact hs.other (by exact u.symm) _
 ·rcases j with rfl|rfl
  ·exact m.w1
  ·exact .inr m.only.size
theorem RMid.growB{a:List Nat}{n:Nat}{v:Value}(m:RMid w G h la ws gw cw bk gb cb X)(C:Grew X Y gb 5 (bk.length+n) v (aC .u8 bk++aC .u8 a))(D:a.length=n): ∃b d,v= .slice (some ⟨b,0,none⟩) (bk.length+n) d/\RMid w G h la ws gw cw (bk++a) b d (Y.setCell ⟨G.p,4,none⟩ v)/\Row Y G.p 52 [I h.size,M gw ws.length cw,M G.gr 64 64,Ψ la,M gb bk.length cb]/\Only [gb] X Y:=by
 obtain⟨x,y,z,A,E,B⟩:=m.apart;obtain⟨b,d,rfl,hs,j,c⟩:=C;have f:=m.p.only c (by simp;exact y);have r:=m.ws.only c (by simp;exact A);have s:=m.rt.only c (by simp;exact B.symm);obtain⟨_,k⟩:=hs.row;have u:G.p≠b:=f.ne k δ;have o:(bk++a).length=bk.length+n:=by rw[List.length_append,D]
 have i:Only G.l w Y:=m.only.trans c (fun q p=>by
  rw[List.mem_singleton]at p;subst p;rcases m.b1 with e|e
  ·exact .inl (by rw[e];exact E2 G)
  ·exact .inr e)
 refine⟨b,d,rfl,⟨?_,r.other (by exact x.symm) _,?_,s.other (by exact z.symm) _,m.w1,?_,i.setCell (vU G) _⟩,f,c⟩
 ·rw[o];exact f.af 4 _
 ·rw[o,bw];exact hs.other (by exact u.symm) _
 ·rcases j with rfl|rfl
  ·exact m.b1
  ·exact .inr m.only.size
theorem RMid.done{f b a:Nat}{fs:List Nat}(p:Limb.Good (bU h f b a fs))(c:5<=G.p/\5<=G.gw/\5<=G.gb/\5<=G.gr)(r:5<=w.heap.size)(m:RMid w G h (h.last+1) (h.ws++[Hd.w0 ⟨fs.length,f,b,a,h.last+1⟩,a,h.last+1]++fs) gw cw (fu h.st++[1]++List.replicate (2+fs.length) 0) gb cb X):RStep w G X ⟨G.p,gw,gb,G.gr⟩ (bU h f b a fs):=by
 have q:(bU h f b a fs).ws=h.ws++[Hd.w0 ⟨fs.length,f,b,a,h.last+1⟩,a,h.last+1]++fs:=by unfold bU;simp
 have i:fu (bU h f b a fs).st=fu h.st++[1]++List.replicate (2+fs.length) 0:=by
  unfold bU;show fu (h.st++(true :: List.replicate (2+fs.length) false))=_
  rw[uV,List.append_assoc];congr 1;unfold fu;simp
 have j:(fu h.st++[1]++List.replicate (2+fs.length) 0).length=(bU h f b a fs).ws.length:=by rw[<-i,fC];exact p.len
 have d:=m.p;have k:=m.ws;have o:=m.bk;rw[<-q]at d k;rw[j,<-i]at o;rw[j]at d;refine⟨⟨p,⟨cw,cb,d,k,o⟩,m.rt,⟨c.1,?_,?_,c.2.2.2⟩⟩,⟨rfl,rfl,m.w1,m.b1⟩,m.only⟩
 ·show 5<=gw;rcases m.w1 with e|e<;>omega
 ·show 5<=gb;rcases m.b1 with e|e<;>omega
end
end Go.Proofs.YtfefijlnbhbplaaGreatDoor

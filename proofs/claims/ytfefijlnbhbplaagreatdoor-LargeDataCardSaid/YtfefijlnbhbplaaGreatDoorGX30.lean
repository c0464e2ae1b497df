/- Walks and laws that LargeData asks for. -/
import Derived.Test.YtfefijlnbhbplaaGreatDoorGX20
import Derived.Lib.AppendZerosOnto
import Derived.Laws.CopyOwn
set_option linter.unusedVariables false
set_option linter.unusedSimpArgs false
set_option maxRecDepth 1000000
set_option maxHeartbeats 12800000
namespace Go.Proofs.YtfefijlnbhbplaaGreatDoor
open Go Lib Go.RowKit Limb Tryz
def hdZ:Hd:=⟨0,0,0,0,0⟩
def hdX(h:Hp)(o:Nat):Hd:=if isO h o=true then hdO h o else hdZ
def erX(h:Hp)(o:Nat):Nat:=if isO h o=true then 0 else 3
theorem nv{h:Hp}{o:Nat}(a:isO h o=true):mY o=o/2:=by
 unfold mY;rw[if_pos (kind_two.2 ⟨(isO_iff.1 a).1,(isO_iff.1 a).2.1⟩)]
section
variable {w:World} {F:Foot} {h:Hp}
theorem di(H:HeapAt w F h)(o:Nat)(S:o<4294967296):Calls prog 179 #[E F.p,Ψ o] w fun e w'=>e=Rt #[hdV (hdX h o),I (erX h o)]/\Below w w w':=by
 obtain⟨W,y,b,p,R⟩:=aA w 94 [I 0,I 0,I 0,Ψ 0,Ψ 0];have q:=hid y;have r:=H.ah p ι;have d:=hid (gK r o S);by_cases c:isO h o=true
 ·have s:=hid (kY o S W (E F.p));have f:=uW r (o/2) (isO_iff.1 c).2.2;have t:=s.out;rw[nv c]at t;have s:=hid t;have k:hdX h o=hd h (o/2):=by unfold hdX;rw[if_pos c];rfl
  have l:erX h o=0:=(by unfold erX;rw[if_pos c]);rw[k,l];have j:=d.out;rw[c]at j;have d:=hid j;generalize o/2=i at*
  generalize hd h i=x at*
  have P:hdV x= .agg #[I x.size,I x.fmt,I x.spare,Ψ x.cls,Ψ x.ser]:=rfl;rw[P]at f ⊢;generalize x.size=G at*
  generalize x.fmt=L at*
  generalize x.spare=M at*
  generalize x.cls=N at*
  generalize x.ser=O at*
  have Q:=hid f;clear f t j k l P y R r c H;go_enter func179,ntmps179;go_wp2_with fail;rw[<-q.out];refine(d.out).mono ?_;rintro e V ⟨rfl,rfl⟩;(try dsimp only);go_wp2_with fail;refine(s.out).mono ?_;rintro e V ⟨rfl,rfl⟩;(try dsimp only);go_wp2_with fail;refine(Q.out).mono ?_;rintro e V ⟨rfl,f⟩;(try dsimp only);replace b:=b.below f b.lt;replace p:=τ p f;clear f;have T:=b.free 0;have U:=b.free 1;have X:=b.free 2;have Y:=b.free 3;have Z:=b.free 4;obtain⟨p0,p1,p2,p3,p4⟩:=b.cells5;obtain⟨z,A,B,C,D⟩:=Row.cells5 (vV b (I G) (I L) (I M) (Ψ N) (Ψ O));have u:=hid (iN p ι (I G) (I L) (I M) (Ψ N) (Ψ O));clear q d s Q;go_wp2_with fail;refine bodyPost_ret (v:= .tuple #[.agg #[I G,I L,I M,Ψ N,Ψ O],I 0]) (by simp[results,results179,go_sem,z,A,B,C,D]) rfl ⟨rfl,u.out⟩
 ·have k:hdX h o=hdZ:=(by unfold hdX;rw[if_neg c]);have l:erX h o=3:=by unfold erX;rw[if_neg c]
  rw[k,l];rw[Bool.not_eq_true]at c;have j:=d.out;rw[c]at j;have d:=hid j;have T:=b.free 0;have U:=b.free 1;have X:=b.free 2;have Y:=b.free 3;have Z:=b.free 4;obtain⟨p0,p1,p2,p3,p4⟩:=b.cells5;obtain⟨z,A,B,C,D⟩:=Row.cells5 (vV b (I 0) (I 0) (I 0) (Ψ 0) (Ψ 0));have u:=hid (iN p ι (I 0) (I 0) (I 0) (Ψ 0) (Ψ 0));clear j k l y R r c H;go_enter func179,ntmps179;go_wp2_with fail;rw[<-q.out];refine(d.out).mono ?_;rintro e V ⟨rfl,rfl⟩;(try dsimp only);clear q d;go_wp2_with fail;refine bodyPost_ret (v:= .tuple #[hdV hdZ,I 3]) (by simp[results,results179,go_sem,z,A,B,C,D,hdV,hdZ]) rfl ⟨rfl,u.out⟩
theorem pA(x:Hd)(w:World):Calls prog 94 #[hdV x] w fun e w'=>e= .returned (.bool (decide (x.fmt=1)||decide (x.fmt=4)))/\Below w w w':=by
 have g:Below w w (w.alloc (.cells #[I x.size,I x.fmt,I x.spare,Ψ x.cls,Ψ x.ser] 94)):=(Below.refl _ _).alloc ι _;unfold hdV;generalize x.fmt=f at*
 by_cases h1:f=1
 ·rw[decide_eq_true h1];subst h1;go_enter func94,ntmps94;go_wp2;go_ret;exact⟨rfl,g⟩
 ·have q:((f:Int)==1)=false:=nE;rw[decide_eq_false h1];by_cases d:f=4
  ·rw[decide_eq_true d];subst d;clear h1 q;go_enter func94,ntmps94;go_wp2;go_ret;exact⟨rfl,g⟩
  ·have i:((f:Int)==4)=false:=nE;rw[decide_eq_false d];clear h1 d;go_enter func94,ntmps94;go_wp2;go_ret;exact⟨rfl,g⟩
theorem mF(x:Hd)(k:x.Ok∨x=hdZ)(w:World):Calls prog 181 #[hdV x] w fun e w'=>e= .returned (I x.len)/\Below w w w':=by
 have b:Below w w (w.alloc (.cells #[I x.size,I x.fmt,I x.spare,Ψ x.cls,Ψ x.ser] 94)):=(Below.refl _ _).alloc ι _;have h1:x.size<=65535:=by rcases k with k|k;exact k.size;rw[k];decide
 have g:x.spare<=3:=by rcases k with k|k;exact k.spare;rw[k];decide
 have d:x.spare=0∨(x.fmt=2/\0<x.size):=by rcases k with k|k;exact k.sp;rw[k];decide
 unfold hdV Hd.len;generalize x.fmt=f at*
 generalize x.size=n at*
 generalize x.spare=s at*
 by_cases hf:f=2
 ·rw[if_pos hf];subst hf;have e:((4*n-s:Nat):Int)=4*(n:Int)-(s:Int):=ω
  rw[e];clear e d k;go_enter func181,ntmps181;go_wp2;go_ret;exact⟨rfl,b⟩
 ·have q:((f:Int)==2)=false:=nE;rw[if_neg hf];clear hf d k;go_enter func181,ntmps181;go_wp2;go_ret;exact⟨rfl,b⟩
end
theorem Row.sl{w:World}{g n:Nat}{e:TypeId}{xs:List Value}(h:Row w g e xs)(a:n=xs.length)(b:n<=maxLen):Sl w g e n n xs:=
 ⟨xs,h,a.symm,a.symm,Nat.le_refl _,b,List.take_of_length_le ω⟩
theorem BN(W:World):(sizeOf 42).run prog W= .ok 1 W:=κ
theorem Ai(w:World)(g:Nat)(l:List Nat)(f n:Nat)(q:Row w g 42 (aC .i64 l))(v:n=l.length)(r:n<=1000):Calls prog 244 #[M g n n,I f] w fun e w'=>(∃z:Int,e= .returned (I z)/\(0<=z↔f∈l))/\w=w':=by
 have d:Sl w g 42 n n (aC .i64 l):=q.sl (by rw[aD];exact v) (Nat.le_trans r δ);have c:=hid v;clear v;go_enter func244,ntmps244;go_wp2;go_loop[8] (fun s=> ∃k:Nat,k<=n/\s= .int .i64 k/\∀j,j<k->wd l j≠f) (fun s=>n-(intOf s).toNat);case atStart=>exact⟨0,Nat.zero_le _,rfl,fun j p=>absurd p ω⟩
 case round=>
  obtain⟨k,E,rfl,m⟩:=hrel;by_cases h0:k<n
  ·have x:decide ((k:Int)<(n:Int))=true:=dT;have A:decide (k<n)=true:=decide_eq_true h0;have F:=fun W=>d.index 225 underlying225 BN W .i64 k h0
   have y:=d.cell h0;rw[aJ (by rw[<-c.out];exact h0)]at y;by_cases i:wd l k=f
   ·have b:f∈l:=(by rw[<-i,wd_lt (by rw[<-c.out];exact h0)];exact List.getElem_mem _);rw[i]at y;clear i m d q c x;have B:=hid b;clear b;go_wp2;go_ret;exact⟨⟨k,rfl,fun _=>B.out,fun _=>ω⟩,rfl⟩
   ·have G:((f:Int)==(wd l k:Nat))=false:=nE;have H:(f==wd l k)=false:=nE
    have C:=hid (show∀j,j<k+1->wd l j≠f from fun j p=>by
     by_cases e:j=k
     ·rw[e];exact i
     ·exact m j ω)
    generalize wd l k=u at*
    clear i m d q c;go_wp2;go_round;case rel=>exact⟨k+1,h0,by simp,C.out⟩
    case measure=>exact μ
  ·have x:decide ((k:Int)<(n:Int))=false:=dF;have A:decide (k<n)=false:=decide_eq_false h0
   have D:=hid (show¬f∈l from fun r=>by
    obtain⟨j,p,e⟩:=List.getElem_of_mem r;exact m j (by have:=c.out;omega) (by rw[wd_lt p];exact e))
   clear m d q c E h0;go_wp2;go_ret;exact⟨⟨-1,rfl,fun h=>absurd h δ,fun h=>absurd h D.out⟩,rfl⟩
theorem qY(w:World)(g:Nat)(l:List Nat)(f n:Nat)(c:Row w g 42 (aC .i64 l))(d:n=l.length)(i:n<=1000):Calls prog 180 #[M g n n,I f] w fun e w'=>e= .returned (.bool (l.contains f))/\w=w':=by
 have a:=hid (Ai w g l f n c d i);clear c d i;go_enter func180,ntmps180;go_wp2_with fail;refine(a.out).mono ?_;rintro e w1 ⟨⟨z,rfl,hz⟩,rfl⟩;(try dsimp only)
 have e:l.contains f=decide (0<=z):=by
  rw[List.contains_eq_mem];exact decide_eq_decide.2 hz.symm
 have j:=hid e;clear hz e a;go_wp2;go_ret;exact⟨by rw[j.out];rfl,rfl⟩
def bB(h:Hp)(o:Nat)(i:Int)(l:List Nat):Nat:=if isO h o=true then(if l.contains (hdO h o).fmt=true then(if 0<=i/\i<(hdO h o).len then 0 else 1)else 21)else 3
def jM(h:Hp)(o:Nat)(i:Int)(l:List Nat):Nat:=if bB h o i l=0 then o/2+3 else 0
theorem lookE_zero{h:Hp}{o:Nat}{i:Int}{l:List Nat}:bB h o i l=0↔isO h o=true/\l.contains (hdO h o).fmt=true/\0<=i/\i<(hdO h o).len:=by
 unfold bB;by_cases h1:isO h o=true
 ·rw[if_pos h1];by_cases a:l.contains (hdO h o).fmt=true
  ·rw[if_pos a];by_cases b:0<=i/\i<(hdO h o).len
   ·rw[if_pos b];exact⟨fun _=>⟨h1,a,b⟩,fun _=>rfl⟩
   ·rw[if_neg b];exact⟨fun e=>ω,fun e=>absurd e.2.2 b⟩
  ·rw[if_neg a];exact⟨fun e=>ω,fun e=>absurd e.2.1 a⟩
 ·rw[if_neg h1];exact⟨fun e=>ω,fun e=>absurd e.1 h1⟩
section
variable {w:World} {F:Foot} {h:Hp}
theorem jt(H:HeapAt w F h)(o:Nat)(ho:o<4294967296)(i:Int)(g:Nat)(l:List Nat)(m:Nat)(hr:Row w g 42 (aC .i64 l))(hm:m=l.length)(Y:m<=1000):Calls prog 89 #[E F.p,Ψ o,I i,M g m m] w fun e w'=>e=Rt #[I (jM h o i l),I (bB h o i l)]/\Below w w w':=by
 have v:=hid (di H o ho);by_cases u:isO h o=true
 ·have P:hdX h o=hdO h o:=(by unfold hdX;rw[if_pos u]);have Q:erX h o=0:=by unfold erX;rw[if_pos u]
  have B:=v.out;rw[P,Q]at B;have D:(hdO h o).Ok:=(H.good.ok _ (isO_iff.1 u).2.2).1;have j:=hid (fun X=>mF (hdO h o) (.inl D) X);have R:=hid (fun X (hx:Below w w X)=>qY X g l (hdO h o).fmt m (hr.below hx hr.lt) hm Y);have L:=hid (fun X=>kY o ho X (E F.p));have ha:=L.out;rw[nv u]at ha;have L:=hid ha;have ex:hdV (hdO h o)= .agg #[I (hdO h o).size,I (hdO h o).fmt,I (hdO h o).spare,Ψ (hdO h o).cls,Ψ (hdO h o).ser]:=rfl;rw[ex]at B j;have v:=hid B;have S:jM h o i l=if bB h o i l=0 then o/2+3 else 0:=rfl
  have G:bB h o i l=if l.contains (hdO h o).fmt=true then(if 0<=i/\i<(hdO h o).len then 0 else 1)else 21:=(by unfold bB;rw[if_pos u]);have hsm:o/2<=1048576:=by have:=fS (isO_iff.1 u).2.2;have:=H.good.len;have:=H.small;omega
  have hll:(hdO h o).len<=262140:=by have:=D.size;unfold Hd.len;split<;>omega
  have HN:=hid (show jM h o i l=(if l.contains (hdO h o).fmt=true then(if 0<=i/\i<(hdO h o).len then o/2+3 else 0)else 0)from by
   rw[S,G];by_cases c1:l.contains (hdO h o).fmt=true
   ·rw[if_pos c1,if_pos c1];by_cases Z:0<=i/\i<(hdO h o).len
    ·rw[if_pos Z,if_pos Z];rfl
    ·rw[if_neg Z,if_neg Z];rfl
   ·rw[if_neg c1,if_neg c1];rfl)
  obtain⟨rA,y⟩: ∃x,x=jM h o i l:=⟨_,rfl⟩;obtain⟨rE,A⟩: ∃x,x=bB h o i l:=⟨_,rfl⟩;rw[<-y,<-A];rw[HN.out]at y;rw[G]at A;clear HN S G;generalize hdO h o=x at*
  generalize o/2=at0 at*
  generalize x.len=ln at*
  generalize x.size=x0 at*
  generalize x.fmt=x1 at*
  generalize x.spare=x2 at*
  generalize x.cls=x3 at*
  generalize x.ser=x4 at*
  generalize l.contains x1=cc at*
  clear B ha P Q ex D u H hr hm Y;have b:=hid y;have d:=hid A;clear y A;go_enter func89,ntmps89;go_wp2_with fail;refine(v.out).mono ?_;rintro e V ⟨rfl,q⟩;(try dsimp only);obtain⟨W,hW,C,N,hz⟩:=aA V 94 [I x0,I x1,I x2,Ψ x3,Ψ x4];have T:=hid hW;clear hW hz;replace q:=τ q N;clear N;obtain⟨p0,p1,p2,p3,p4⟩:=C.cells5;go_wp2_with fail;rw[<-T.out];refine(R.out W q).mono ?_;rintro e W1 ⟨rfl,rfl⟩;(try dsimp only);cases cc with
  |false=>
   obtain rfl:rA=0:=b.out;obtain rfl:rE=21:=d.out;clear b d j R L v T C p0 p1 p2 p3 p4;go_wp2_with fail;go_ret2;exact⟨rfl,q⟩
  |true=>
   by_cases U:i<0
   ·have d1:decide (i<0)=true:=decide_eq_true U;obtain rfl:rA=0:=by rw[b.out,if_pos rfl,if_neg ω]
    obtain rfl:rE=1:=by rw[d.out,if_pos rfl,if_neg ω]
    clear b d j R L v T C p0 p1 p2 p3 p4 U;go_wp2_with fail;go_ret2;exact⟨rfl,q⟩
   ·have d1:decide (i<0)=false:=decide_eq_false U;go_wp2_with fail;refine(j.out W).mono ?_;rintro e W2 ⟨rfl,N⟩;(try dsimp only);replace C:=C.below N C.lt;replace q:=τ q N;clear N;by_cases i1:(ln:Int)<=i
    ·have d2:decide ((ln:Int)<=i)=true:=decide_eq_true i1;obtain rfl:rA=0:=by rw[b.out,if_pos trivial,if_neg ω]
     obtain rfl:rE=1:=by rw[d.out,if_pos trivial,if_neg ω]
     clear b d j R L v T C p0 p1 p2 p3 p4 U i1;go_wp2_with fail;go_ret2;exact⟨rfl,q⟩
    ·have d2:decide ((ln:Int)<=i)=false:=decide_eq_false i1;obtain rfl:rA=at0+3:=by rw[b.out,if_pos trivial,if_pos ω]
     obtain rfl:rE=0:=by rw[d.out,if_pos trivial,if_pos ω]
     clear b d j R v T C p0 p1 p2 p3 p4 U i1;go_wp2_with fail;refine(L.out W2).mono ?_;rintro e W3 ⟨rfl,rfl⟩;(try dsimp only);go_wp2_with fail;go_ret2;exact⟨rfl,q⟩
 ·have Q:erX h o=3:=(by unfold erX;rw[if_neg u]);have P:hdX h o=hdZ:=by unfold hdX;rw[if_neg u]
  have e3:bB h o i l=3:=(by unfold bB;rw[if_neg u]);have e4:jM h o i l=0:=by unfold jM;rw[e3];rfl
  have B:=v.out;rw[P,Q,(φ:hdV hdZ= .agg #[I 0,I 0,I 0,Ψ 0,Ψ 0])]at B;have v:=hid B;rw[e3,e4];clear B P Q e3 e4 u H hr hm;go_enter func89,ntmps89;go_wp2_with fail;refine(v.out).mono ?_;rintro e V ⟨rfl,q⟩;(try dsimp only);have hE:=q.alloc q.size (.cells #[I 0,I 0,I 0,Ψ 0,Ψ 0] 94);go_wp2_with fail;go_ret2;exact⟨rfl,hE⟩
end
section
variable {w:World} {F:Foot} {h:Hp}
theorem HeapAt.putW(H:HeapAt w F h){k v:Nat}(j:k<h.ws.length)(m:Limb.Good (Limb.putW h k v)):HeapAt (w.setCell ⟨F.gw,k,none⟩ (Ψ (v:Nat))) F (Limb.putW h k v):=by
 obtain⟨c,d,f,g,i⟩:=H.row;obtain⟨n,o,p,q,r,u⟩:=H.apart;have a:Only [F.gw] w (w.setCell ⟨F.gw,k,none⟩ (Ψ (v:Nat))):=(Only.refl _ _).setCell (by simp) _;have b:(Limb.putW h k v).ws.length=h.ws.length:=ie h k v;refine⟨m,H.spares.only a (by have:=H.low;simp;omega),⟨c,d,?_,?_,?_⟩,H.roots.only a (by simp;omega),H.low⟩
 ·rw[b];exact f.only a (by simp;omega)
 ·rw[b];have:=g.store j (Ψ (v:Nat))
  rwa [<-i6]at this
 ·rw[b];exact i.only a (by simp;omega)
theorem HeapAt.setR(H:HeapAt w F h){k v:Nat}(i:Limb.Good (Limb.setR h k v)):HeapAt (w.setCell ⟨F.gr,k,none⟩ (Ψ (v:Nat))) F (Limb.setR h k v):=by
 obtain⟨b,c,d,f,g⟩:=H.row;obtain⟨j,m,n,o,p,q⟩:=H.apart;have a:Only [F.gr] w (w.setCell ⟨F.gr,k,none⟩ (Ψ (v:Nat))):=(Only.refl _ _).setCell (by simp) _;exact⟨i,H.spares.only a (by have:=H.low;simp;omega),⟨b,c,d.only a (by simp;omega),f.only a (by simp;omega),g.only a (by simp;omega)⟩,H.roots.store k v v rfl,H.low⟩
theorem sR(F:Foot):F.gw∈F.l:=by unfold Foot.l;simp
theorem Cq(F:Foot):F.gr∈F.l:=by unfold Foot.l;simp
theorem mM(F:Foot):F.p∈F.l:=by unfold Foot.l;simp
theorem Step.putW(H:HeapAt w F h){k v:Nat}(a:k<h.ws.length)(b:Limb.Good (Limb.putW h k v)):Step w F (w.setCell ⟨F.gw,k,none⟩ (Ψ (v:Nat))) F (Limb.putW h k v):=
 ⟨H.putW a b,Foot.Next.refl _ _,(Only.refl _ _).setCell (sR F) _⟩
theorem Step.setR(H:HeapAt w F h){k v:Nat}(a:Limb.Good (Limb.setR h k v)):Step w F (w.setCell ⟨F.gr,k,none⟩ (Ψ (v:Nat))) F (Limb.setR h k v):=
 ⟨H.setR a,Foot.Next.refl _ _,(Only.refl _ _).setCell (Cq F) _⟩
theorem Step.of_below{w' b:World}{d:Foot}{e:Hp}(c:Below w w w')(a:Step w' F b d e):Step w F b d e:=
 ⟨a.1,⟨a.2.1.p,a.2.1.gr,by have:=a.2.1.gw;have:=c.size;omega,by have:=a.2.1.gs;have:=c.size;omega⟩,(Only.of_below (ps:=F.l) c).trans a.2.2 (fun q f=> .inl f)⟩
theorem o4(k:Limb.Good h){o i:Nat}(b:isO h o=true)(a:i<(hdO h o).size):o/2+3+i<h.ws.length:=by
 have:=k.inside _ (isO_iff.1 b).2.2;have a:i<(hd h (o/2)).size:=a;omega
theorem fr{x:Hd}(h:x.fmt≠2):x.len=x.size:=by unfold Hd.len;rw[if_neg h]
def jL(h:Hp)(o:Nat)(i:Int)(l:List Nat):Nat:=if bB h o i l=0 then fld h o i.toNat else 0
theorem gF(h:Hp)(o:Nat)(i:Int)(l:List Nat)(c:2∉l):(bB h o i l≠0/\jM h o i l=0)∨(bB h o i l=0/\jM h o i l=o/2+3/\isO h o=true/\(hdO h o).fmt∈l/\∃j:Nat,i=j/\j<(hdO h o).size):=by
 by_cases h0:bB h o i l=0
 ·obtain⟨h1,a,d,b⟩:=lookE_zero.1 h0;rw[List.contains_eq_mem,decide_eq_true_eq]at a;rw[fr (fun e=>c (e ▸ a))]at b;exact .inr ⟨h0,by unfold jM;rw[if_pos h0],h1,a,i.toNat,ω,ω⟩
 ·exact .inl ⟨h0,by unfold jM;rw[if_neg h0]⟩
theorem kT(H:HeapAt w F h)(o:Nat)(N:o<4294967296)(i:Int)(O: -9223372036854775808<=i)(P:i<=9223372036854775807):Calls prog 258 #[.pointer (some ⟨F.p,0,none⟩),Ψ o,I i] w fun e w'=>e=Rt #[Ψ (jL h o i [1,4]),I (bB h o i [1,4])]/\Below w w w':=by
 obtain⟨W,z,M,g,C⟩:=aA w 42 [I 1,I 4];have x:=hid z;have v:=H.ah g ι;have d:=hid (jt v o N i w [1,4] 2 M rfl δ);have y:=gF h o i [1,4] δ;rcases y with⟨c,u⟩|⟨c,u,e3,e4,j,rfl,e5⟩
 ·have l:jL h o i [1,4]=0:=(by unfold jL;rw[if_neg c]);have f:=d.out;rw[u]at f;have d:=hid f;rw[l];have q:(((bB h o i [1,4]:Nat):Int) != 0)=true:=by rw[bne_iff_ne];omega
  have Q:(((bB h o i [1,4]:Nat):Int)==0)=false:=nE;have R:(bB h o i [1,4]==0)=false:=nE
  have S: ¬bB h o i [1,4]=0:=c;generalize bB h o i [1,4]=E at*
  clear f c u l z C v H;go_enter func258,ntmps258;go_wp2_with fail;rw[<-x.out];refine(d.out).mono ?_;rintro e V ⟨rfl,hb⟩;(try dsimp only);replace g:=τ g hb;clear hb;go_wp2_with fail;go_ret2;exact⟨rfl,g⟩
 ·have l:jL h o (j:Int) [1,4]=fld h o j:=(by unfold jL;rw[if_pos c,Int.toNat_natCast]);have f:=d.out;rw[u,c]at f;rw[l,c];have d:=hid (f.mono (R':=fun e w'=>e=Rt #[I (o/2+3:Nat),I 0]/\Below W.heap.size W w'/\HeapAt w' F h) fun e w' ⟨a,b⟩=>⟨a,b,v.below b⟩);have k:=o4 H.good e3 e5;have s:fld h o j=wd h.ws (o/2+3+j):=rfl;have D:=H.small;generalize o/2+3=B at*
  rw[s];clear f c u l z C v H e3 e4 e5 s;go_enter func258,ntmps258;go_wp2_with fail;rw[<-x.out];refine(d.out).mono ?_;rintro e V ⟨rfl,hb,HV⟩;(try dsimp only);replace g:=τ g hb;clear hb;obtain⟨T,U,X,c1,Y,Z,c4,A,hs⟩:=HV.cells;have G:=A.cell k;rw[aJ k]at G;have L:=fun W=>A.index 22 underlying22 aK W .i64 (B+j) k
  rw[Int.natCast_add]at L;clear HV A hs d x;go_wp2_with fail;go_ret2;exact⟨rfl,g⟩
theorem A6(H:HeapAt w F h)(o:Nat)(N:o<4294967296)(i:Int)(O: -9223372036854775808<=i)(P:i<=9223372036854775807):Calls prog 196 #[.pointer (some ⟨F.p,0,none⟩),Ψ o,I i] w fun e w'=>e=Rt #[Ψ (jL h o i [3]),I (bB h o i [3])]/\Below w w w':=by
 obtain⟨W,z,M,g,C⟩:=aA w 42 [I 3];have x:=hid z;have v:=H.ah g ι;have d:=hid (jt v o N i w [3] 1 M rfl δ);have y:=gF h o i [3] δ;rcases y with⟨c,u⟩|⟨c,u,e3,e4,j,rfl,e5⟩
 ·have l:jL h o i [3]=0:=(by unfold jL;rw[if_neg c]);have f:=d.out;rw[u]at f;have d:=hid f;rw[l];have q:(((bB h o i [3]:Nat):Int) != 0)=true:=by rw[bne_iff_ne];omega
  have Q:(((bB h o i [3]:Nat):Int)==0)=false:=nE;have R:(bB h o i [3]==0)=false:=nE
  have S: ¬bB h o i [3]=0:=c;generalize bB h o i [3]=E at*
  clear f c u l z C v H;go_enter func196,ntmps196;go_wp2_with fail;rw[<-x.out];refine(d.out).mono ?_;rintro e V ⟨rfl,hb⟩;(try dsimp only);replace g:=τ g hb;clear hb;go_wp2_with fail;go_ret2;exact⟨rfl,g⟩
 ·have l:jL h o (j:Int) [3]=fld h o j:=(by unfold jL;rw[if_pos c,Int.toNat_natCast]);have f:=d.out;rw[u,c]at f;rw[l,c];have d:=hid (f.mono (R':=fun e w'=>e=Rt #[I (o/2+3:Nat),I 0]/\Below W.heap.size W w'/\HeapAt w' F h) fun e w' ⟨a,b⟩=>⟨a,b,v.below b⟩);have k:=o4 H.good e3 e5;have s:fld h o j=wd h.ws (o/2+3+j):=rfl;have D:=H.small;generalize o/2+3=B at*
  rw[s];clear f c u l z C v H e3 e4 e5 s;go_enter func196,ntmps196;go_wp2_with fail;rw[<-x.out];refine(d.out).mono ?_;rintro e V ⟨rfl,hb,HV⟩;(try dsimp only);replace g:=τ g hb;clear hb;obtain⟨T,U,X,c1,Y,Z,c4,A,hs⟩:=HV.cells;have G:=A.cell k;rw[aJ k]at G;have L:=fun W=>A.index 22 underlying22 aK W .i64 (B+j) k
  rw[Int.natCast_add]at L;clear HV A hs d x;go_wp2_with fail;go_ret2;exact⟨rfl,g⟩
end
def mZ(h:Hp)(o:Nat)(i:Int)(v:Nat):Nat:=if bB h o i [1,4]=0 then(if dS h v=true then 0 else 3)else bB h o i [1,4]
def sJ(h:Hp)(o:Nat)(i:Int)(v:Nat):Hp:=if mZ h o i v=0 then Limb.putF h o i.toNat v else h
def o9(h:Hp)(o:Nat)(i:Int)(v:Nat):Hp:=if bB h o i [3]=0 then Limb.putF h o i.toNat v else h
section
variable {w:World} {F:Foot} {h:Hp}
theorem Step.same(H:HeapAt w F h){w':World}(a:Below w w w'):Step w F w' F h:=(Step.refl H).below a
theorem wt{o f j:Nat}(h1:isO h o=true)(a:(hdO h o).fmt=f)(b:j<(hdO h o).size):isF h o f (j+1)=true:=by
 unfold isF;rw[h1,decide_eq_true a,decide_eq_true (show j+1<=(hdO h o).size by omega)];rfl
theorem uT(H:HeapAt w F h)(o:Nat)(ho:o<4294967296)(i:Int)(hi1: -9223372036854775808<=i)(hi2:i<=9223372036854775807)(v:Nat)(P:v<4294967296):Calls prog 59 #[.pointer (some ⟨F.p,0,none⟩),Ψ o,I i,Ψ v] w fun e w'=>e= .returned (I (mZ h o i v:Nat))/\Step w F w' F (sJ h o i v):=by
 obtain⟨W,O,Z,k,S⟩:=aA w 42 [I 1,I 4];have C:=hid O;have D:=H.ah k ι;have g:=hid (jt D o ho i w [1,4] 2 Z rfl δ);have M:=gF h o i [1,4] δ;rcases M with⟨d,z⟩|⟨d,z,e3,e4,j,rfl,e5⟩
 ·have Q:sJ h o i v=h:=(by unfold sJ;rw[if_neg (by first |exact d|(unfold mZ;rw[if_neg d];exact d))]);rw[Q];have R:mZ h o i v=bB h o i [1,4]:=by unfold mZ;rw[if_neg d]
  rw[R];have l:=g.out;rw[z]at l;have g:=hid l;have q:(((bB h o i [1,4]:Nat):Int) != 0)=true:=by rw[bne_iff_ne];omega
  have q2:(((bB h o i [1,4]:Nat):Int)==0)=false:=nE;have q3:(bB h o i [1,4]==0)=false:=nE
  have q4: ¬bB h o i [1,4]=0:=d;have u:=hid (fun X (s:Below w w X)=>Step.same H s);generalize bB h o i [1,4]=E at*
  clear l d z Q R O S D H;go_enter func59,ntmps59;go_wp2_with fail;rw[<-C.out];refine(g.out).mono ?_;rintro e V ⟨rfl,s⟩;(try dsimp only);replace k:=τ k s;clear s;go_wp2_with fail;go_ret;exact⟨rfl,u.out _ k⟩
 ·have l:=g.out;rw[z,d]at l;have g:=hid (l.mono (R':=fun e w'=>e=Rt #[I (o/2+3:Nat),I 0]/\Below W.heap.size W w'/\HeapAt w' F h) fun e w' ⟨a,b⟩=>⟨a,b,D.below b⟩);have f:=o4 H.good e3 e5;have T:=H.small;have N:mZ h o (j:Int) v=if dS h v=true then 0 else 3:=by unfold mZ;rw[if_pos d]
  have c:=hid (fun X (H:HeapAt X F h)=>nR H v P)
  have x:sJ h o (j:Int) v=if dS h v=true then Limb.putF h o j v else h:=by
   unfold sJ;rw[N,Int.toNat_natCast];cases dS h v<;>rfl
  rw[x,N]
  have G:Limb.Good (Limb.putF h o j v):=by
   simp only[List.mem_cons,List.not_mem_nil,or_false]at e4;rcases e4 with e4|e4
   ·exact fq H.good (wt e3 e4 e5) δ P
   ·exact fq H.good (wt e3 e4 e5) δ P
  have y:Limb.putF h o j v=Limb.putW h (o/2+3+j) v:=rfl;rw[y]at G ⊢;obtain⟨vv,A⟩: ∃b,b=dS h v:=⟨_,rfl⟩;rw[<-A]at c ⊢;clear A;generalize o/2+3=B at*
  clear l d z O S D H e3 e4 e5 y x N;go_enter func59,ntmps59;go_wp2_with fail;rw[<-C.out];refine(g.out).mono ?_;rintro e V ⟨rfl,s,HV⟩;(try dsimp only);replace k:=τ k s;clear s;go_wp2_with fail;refine(c.out _ HV).mono ?_;rintro e V1 ⟨rfl,rfl⟩;(try dsimp only);cases vv with
  |false=>
   have u:=hid (Step.of_below k (Step.refl HV));clear HV c g C G;go_wp2_with fail;go_ret;exact⟨rfl,u.out⟩
  |true=>
   obtain⟨cw,cs,c0,c1,c2,c3,c4,L,hs⟩:=HV.cells;have z0:=L.free (B+j);have U:=L.cell f;rw[aJ f]at U;have Y:=fun W=>L.index 22 underlying22 aK W .i64 (B+j) f
   rw[Int.natCast_add]at Y;have u:=hid (Step.of_below k (Step.putW HV f G));clear HV L hs g C c G;go_wp2_with fail;go_ret;exact⟨rfl,u.out⟩
theorem sd(H:HeapAt w F h)(o:Nat)(S:o<4294967296)(i:Int)(T: -9223372036854775808<=i)(U:i<=9223372036854775807)(v:Nat)(Y:v<4294967296):Calls prog 40 #[.pointer (some ⟨F.p,0,none⟩),Ψ o,I i,Ψ v] w fun e w'=>e= .returned (I (bB h o i [3]:Nat))/\Step w F w' F (o9 h o i v):=by
 obtain⟨W,L,R,k,N⟩:=aA w 42 [I 3];have B:=hid L;have z:=H.ah k ι;have f:=hid (jt z o S i w [3] 1 R rfl δ);have C:=gF h o i [3] δ;rcases C with⟨c,x⟩|⟨c,x,e3,e4,j,rfl,e5⟩
 ·have M:o9 h o i v=h:=(by unfold o9;rw[if_neg (by first |exact c|(unfold mZ;rw[if_neg c];exact c))]);rw[M];have g:=f.out;rw[x]at g;have f:=hid g;have q:(((bB h o i [3]:Nat):Int) != 0)=true:=by rw[bne_iff_ne];omega
  have Z:(((bB h o i [3]:Nat):Int)==0)=false:=nE;have q3:(bB h o i [3]==0)=false:=nE
  have q4: ¬bB h o i [3]=0:=c;have D:=hid (fun X (l:Below w w X)=>Step.same H l);generalize bB h o i [3]=E at*
  clear g c x M L N z H;go_enter func40,ntmps40;go_wp2_with fail;rw[<-B.out];refine(f.out).mono ?_;rintro e V ⟨rfl,l⟩;(try dsimp only);replace k:=τ k l;clear l;go_wp2_with fail;go_ret;exact⟨rfl,D.out _ k⟩
 ·have g:=f.out;rw[x,c]at g;have f:=hid (g.mono (R':=fun e w'=>e=Rt #[I (o/2+3:Nat),I 0]/\Below W.heap.size W w'/\HeapAt w' F h) fun e w' ⟨a,b⟩=>⟨a,b,z.below b⟩);have d:=o4 H.good e3 e5;have O:=H.small;have s:o9 h o (j:Int) v=Limb.putF h o j v:=by unfold o9;rw[if_pos c,Int.toNat_natCast]
  rw[s,c]
  have G:Limb.Good (Limb.putF h o j v):=by
   rw[List.mem_singleton]at e4;exact fq H.good (wt e3 e4 e5) δ Y
  have u:Limb.putF h o j v=Limb.putW h (o/2+3+j) v:=rfl;rw[u]at G ⊢;generalize o/2+3=y at*
  clear g c x L N z H e3 e4 e5 u s;go_enter func40,ntmps40;go_wp2_with fail;rw[<-B.out];refine(f.out).mono ?_;rintro e V ⟨rfl,l,HV⟩;(try dsimp only);replace k:=τ k l;clear l;obtain⟨cw,cs,c0,c1,c2,c3,c4,A,hs⟩:=HV.cells;have z0:=A.free (y+j);have P:=A.cell d;rw[aJ d]at P;have Q:=fun W=>A.index 22 underlying22 aK W .i64 (y+j) d
  rw[Int.natCast_add]at Q;have D:=hid (Step.of_below k (Step.putW HV d G));clear HV A hs f B G;go_wp2_with fail;go_ret;exact⟨rfl,D.out⟩
theorem kL(H:HeapAt w F h)(i:Nat)(d:i<64)(v:Nat)(f:v<4294967296)(a:dS h v=true):Calls prog 18 #[E F.p,I i,Ψ v] w fun e w'=>e= .returned (I 0)/\Step w F w' F (Limb.setR h i v):=by
 have g:=hid (dJ H);have b:=nR H v f;rw[a]at b;have j:=hid b;have l:=hid (Step.setR H (k:=i) (v:=v) (H.good.setR f));obtain⟨y,z,A,c1,B,C,D,p,hs⟩:=H.cells;have q:=H.roots.free i;have r:=H.ai d;have s:decide ((i:Int)<0)=false:=dF;have t:decide ((64:Int)<=(i:Int))=false:=dF;have u:decide (64<=i)=false:=dF;have c:Sl w F.gr 26 64 64 (aC .u32 h.rt):=H.roots.sl (by rw[aD];exact H.good.rlen.symm) δ;have x:=fun W=>c.index 44 underlying44 ch W .i64 i d
 clear p hs H c b a;go_enter func18,ntmps18;go_wp2_with fail;refine(g.out).mono ?_;rintro e w1 ⟨rfl,rfl⟩;go_wp2_with fail;refine(j.out).mono ?_;rintro e w1 ⟨rfl,rfl⟩;go_wp2;go_ret;exact⟨rfl,l.out⟩
end
theorem aF{x:Int}(h1: -9223372036854775808<=x)(a:x<=9223372036854775807):IntKind.i64.wrap x=x:=by
 simp only[IntKind.wrap,IntKind.bits,IntKind.signed];simp;omega
section
variable {w:World} {F:Foot} {h:Hp}
theorem jT(H:HeapAt w F h)(o c:Nat)(D:o<4294967296)(G:c<4294967296)(h1:isO h o=true)(L:cU h c=true):Calls prog 60 #[E F.p,Ψ o,Ψ c] w fun e w'=>e= .returned (I 0)/\Step w F w' F (Limb.setC h o c):=by
 have j:=gK H o D;have k:=k6 H c G;rw[h1]at j;rw[L]at k;have N:=hid j;have P:=hid k;have p:=fun X=>kY o D X (E F.p)
 rw[nv h1]at p;have Q:=hid p;have q:=(isO_iff.1 h1).2.2;have u:=H.good.inside _ q;have f:o/2+1<h.ws.length:=ω
 have v:=H.good.setC q (c:=c) G;have x:=Step.putW H f v;have z:Limb.setC h o c=Limb.putW h (o/2+1) c:=rfl;have R:=H.small;rw[z];generalize o/2=b at*
 obtain⟨B,cs,A,c1,c2,c3,c4,i,hs⟩:=H.cells;have Z:=i.free (b+1);have T:=i.cell f;rw[aJ f]at T;have U:=fun W=>i.index 22 underlying22 aK W .i64 (b+1) f
 rw[Int.natCast_add,(φ:((1:Nat):Int)=1)]at U
 have g: ∀X,Only [F.gw] w X->X.cell? ⟨F.p,0,none⟩=O (M F.gw h.ws.length B):=fun X hX=>by
  rw[<-A];exact World.cell?_of_block (hX.block _ (H.lt _ (mM F)) (by simp;exact H.apart.1))
 have V:=hid g;have Y:=hid (show∀n,Step w F ((w.drewN n).setCell ⟨F.gw,b+1,none⟩ (Ψ (c:Nat))) F (Limb.putW h (b+1) c)from fun n=>Step.of_below (w':=w.drewN n) ⟨rfl,rfl,rfl,Nat.le_refl _,fun _ _=>rfl⟩ (Step.putW (H.below (w':=w.drewN n) ⟨rfl,rfl,rfl,Nat.le_refl _,fun _ _=>rfl⟩) f v));have hX:Only [F.gw] w w.drew:=(Only.refl _ _).drew;clear g i hs H j k p q u v x z h1 L;go_enter func60,ntmps60;go_wp2_with fail;refine(N.out).mono ?_;rintro e w1 ⟨rfl,rfl⟩;go_wp2_with fail;refine(P.out).mono ?_;rintro e w1 ⟨rfl,rfl⟩;go_wp2;refine wp_region_held (S:=fun X=>Only [F.gw] w X) κ ?_;refine tk 0 (E F.p) ?_;refine tk 1 (E F.p) ?_;refine tk 2 (E F.p) ?_;refine tk 3 (M F.gw h.ws.length B) ?_ (y:=fun X hX=>by have A:=V.out X hX;go_simp);refine tk 4 (E F.p) ?_;refine tk 5 (Ψ o) ?_;refine tk 8 (Ψ c) ?_;refine wo 6 ?_;unfold wpOp;go_simp;refine .inl ((Q.out _).mono ?_);rintro e X1 ⟨rfl,rfl⟩;refine⟨hX,?_⟩;refine tk 7 (I ((b:Int)+1)) ?_ (y:=fun X hX=>by go_simp;exact aF ω ω);refine tk 9 (Θ F.gw (b+1)) ?_;refine wo 10 ?_;unfold wpOp;go_simp;replace hX:=hX.setCell (a:=⟨F.gw,b+1,none⟩) (by simp) (Ψ c);refine .inl ⟨hX,?_⟩;refine wpAnyH_done κ ?_ _;go_wp2;go_ret;exact⟨rfl,Y.out 1⟩
end
theorem go:(prog.info? 26).map (fun i=>(i.zero,i.size,i.bytes))=some (some (.int .u32 0),1,4):=κ
theorem Cx(w:World)(hs:Spares w)(n:Nat)(h1:64<=n)(h2:n<=1048576):Calls prog 17 #[.int .i64 n] w fun e w'=> ∃F,e= .returned (.tuple #[.pointer (some ⟨F.p,0,none⟩),.int .i64 0])/\HeapAt w' F (cG n)/\Below w.heap.size w w'/\∀g∈F.l,w.heap.size<=g:=by
 obtain⟨W,hW,r0,hb0,hz0⟩:=aA w 25 [.int .u32 0];obtain⟨V,hV,r1,hb1,hz1⟩:=aA W 4 [.bool false];rw[hz0]at r1;have hB:Below w.heap.size w V:=hb0.trans (hb1.mono ω);replace r0:=r0.below hb1 r0.lt;have HV:=hid (show V=(w.alloc (.cells #[.int .u32 0] 25)).alloc (.cells #[.bool false] 4) by rw[hV,hW]);have hz:V.heap.size=w.heap.size+2:=ω
 have d1:decide ((n:Int)<64)=false:=dF;have d1':decide (n<64)=false:=dF;have d2:decide ((1048576:Int)<(n:Int))=false:=dF;have d2':decide (1048576<n)=false:=dF;have Hs:=hid (hs.below hB hs.1);have h5:=hs.1;clear hV hW hz0 hz1 hb0 hb1 hs;go_enter func17,ntmps17;go_wp2_with(at_make;rw[<-HV.out];refine aI rfl _ _ _ rfl 26 (.int .u32 0) 4 underlying44 go rfl _ _ _ _ 64 64 rfl rfl rfl rfl δ δ δ ?_;intro w1 g hg1 hg2 hrow hbel);replace r0:=r0.below hbel r0.lt;replace r1:=r1.below hbel r1.lt;replace hB:=τ hB hbel;have hS:=Hs.out.below hbel ω;obtain⟨U,hU,r3,hb3,hz3⟩:=aA w1 91 [.slice (some ⟨w.heap.size,0,none⟩) 1 1,.slice (some ⟨w.heap.size+1,0,none⟩) 1 1,.slice (some ⟨g,0,none⟩) 64 64,.int .i64 n,.int .u32 0];have HU:=hid hU;rw[hg2]at r3 hb3;replace r0:=r0.below hb3 ω;replace r1:=r1.below hb3 ω;replace hrow:=hrow.below hb3 ω;replace hS:=hS.below hb3 ω;have hBU:=hB.trans (hb3.mono ω)
 have HH:HeapAt U ⟨g+1,w.heap.size,w.heap.size+1,g⟩ (cG n):=by
  refine⟨dC h1 h2,hS,⟨1,1,r3,?_,?_⟩,?_,?_⟩
  ·exact r0.sl rfl (show 1<=maxLen by decide)
  ·exact r1.sl rfl (show 1<=maxLen by decide)
  ·show Row U g _ (aC .u32 (List.replicate 64 0))
   rw[aG];exact hrow
  ·show 5<=g+1/\5<=w.heap.size/\5<=w.heap.size+1/\5<=g
   omega
 refine bodyPost_ret (v:= .tuple #[.pointer (some ⟨g+1,0,none⟩),.int .i64 0]) (by simp[results,results17,go_sem]) rfl ?_;rw[show(w1.alloc (Obj.cells #[Value.slice (some ⟨w.heap.size,0,none⟩) 1 1,Value.slice (some ⟨w.heap.size+1,0,none⟩) 1 1,Value.slice (some ⟨g,0,none⟩) 64 64,Value.int IntKind.i64 n,Value.int IntKind.u32 0] 91))=U from HU.out.symm];refine⟨⟨g+1,w.heap.size,w.heap.size+1,g⟩,rfl,HH,hBU,fun x hx=>?_⟩;unfold Foot.l at hx;simp only[List.mem_cons,List.not_mem_nil,or_false]at hx;rcases hx with rfl|rfl|rfl|rfl<;>omega
def Grew(w w':World)(g:Nat)(e:TypeId)(n:Nat)(v:Value)(ys:List Value):Prop:=
 ∃a b,v= .slice (some ⟨a,0,none⟩) n b/\Sl w' a e n b ys/\(a=g∨a=w.heap.size)/\Only [g] w w'
theorem py{w w':World}{g:Nat}(h:w.grownBy w' (some g)):Only [g] w w':=
 ⟨h.os,h.tape,h.output,h.size,fun k a b=>h.block k a (fun e=>b (by rw[Option.some.inj e];simp))⟩
section
variable {P:Program} {w:World} {t tn ty e:TypeId} {i:TypeInfo} {z:Value} {bytes:Nat}
theorem bW(ht:P.underlying t=some (.slice e))(G:P.info? e=some i)(H:i.zero=some z)(f:i.size=1)(q:i.bytes=bytes)(v:z.cells.size=1){g n c:Nat}{xs:List Value}(h:Sl w g e n c xs)(a:Addr)(m y:Nat)(L:0<n+m)(b:List Value)(I:b.length=m)(k: ∀j u,b[j]? =some u->w.cell? (a.add j)=some u)(h1: ∀u∈b,u.oneCell'=true)(x:n+m<=maxLen)(d:(n+m)*bytes<=140737488355328): ∃p w',(Builtin.append_ #[t,t] ty #[M g n c,.slice (some a) m y]).run P w= .ok p w'/\Grew w w' g e (n+m) p (xs++b):=by
 obtain⟨p,w',A,B,C,_,o⟩:=run_append_own_at (P:=P) w 0 t ty e i z 1 bytes ht G H f q v δ _ n xs h.owns a m y b (by rw[Nat.mul_one];exact I) k h1 x d (Nat.zero_le _);obtain⟨D,E,rfl,F,hs⟩:=Sl.aj B ω;refine⟨_,w',A,D,E,rfl,hs,?_,py C⟩;rw[F]at o;rcases o with o|o
 ·exact .inl (Option.some.inj o)
 ·exact .inr (Option.some.inj o)
theorem gR(z:Value)(k:Nat)(b:z.cells= #[z]):Builtin.zeroCells z.cells k=(List.replicate k z).toArray:=by
 unfold Builtin.zeroCells;rw[b];apply Array.ext
 ·simp
 ·intro i h1 c;simp[Nat.mod_one]
theorem kZ(ht:P.underlying t=some (.slice e)){kn:IntKind}(E:P.underlying tn=some (.int kn))(hi:P.info? e=some i)(hz:i.zero=some z)(m:i.size=1)(F:i.bytes=bytes)(v:z.cells= #[z])(R:z.oneCell'=true){g n c:Nat}{xs:List Value}(h:Sl w g e n c xs)(kq:IntKind)(k:Nat)(hk:0<k)(G:n+k<=maxLen)(p:(n+k)*bytes<=140737488355328): ∃Z w',(Builtin.append_ #[t,tn] ty #[M g n c,.int kq k]).run P w= .ok Z w'/\Grew w w' g e (n+k) Z (xs++List.replicate k z):=by
 obtain⟨b,h1,h2,U,h4,V,X⟩:=h;have hm:n+k<=9223372036854775807:=by simp only[maxLen]at G;omega
 have H:k*i.bytes<=281474976710656:=by
  rw[F];have:k*bytes<=(n+k)*bytes:=Nat.mul_le_mul_right _ ω;omega
 by_cases f:n+k<=c
 ·have S:w.heap[g]? =some (.cells b.toArray e (0,0)):=h1;have x:=run_storeCells_at P g n e (List.replicate k z) 0 b.toArray w S (by simp;omega) (by simp;intro _;exact R);simp only[Nat.add_zero]at x;have hw:IntKind.i64.wrap (k:Int)=k:=by rw[IntKind.wrap_i64];omega
  have B: ¬((k:Int)<0):=ω;have C: ¬(281474976710656<(k:Int)*(i.bytes:Int)):=by rw[<-Int.natCast_mul];omega
  have I:k≠0:=ω;have L:=gR z k v;refine⟨.slice (some ⟨g,0,none⟩) (n+k) c,w.setRow g (b.take n++List.replicate k z++b.drop (n+k)).toArray,?_,g,c,rfl,⟨b.take n++List.replicate k z++b.drop (n+k),?_,?_,?_,f,V,?_⟩,.inl rfl,?_⟩
  ·simp[Builtin.append_,run_underlying ht,run_underlying E,sizeOf,typeInfo,zeroValue,hi,hz,asInt,asIntOf,hw,I,B,C,f,m,L,Addr.add_lit,x]
  ·exact setRow_heap w g b.toArray _ e _ S
  ·simp;omega
  ·simp;omega
  ·rw[X,List.take_append_of_le_length (by simp;omega),List.take_of_length_le (by simp;omega)]
  ·exact⟨rfl,rfl,rfl,by simp,fun j _ hn=>setRow_other w g j _ (fun e=>hn (by rw[e];simp))⟩
 ·have q: ∀j u,xs[j]? =some u->w.drew.cell? ((⟨g,0,none⟩:Addr).add j)=some u:=by
   intro j u Y
   have N:j<n:=by
    have:=(List.getElem?_eq_some_iff.1 Y).1;omega
   have T:=Sl.cell (w:=w) (e:=e) (c:=c) ⟨b,h1,h2,U,h4,V,X⟩ N;rw[Y]at T
   have ha:(⟨g,0,none⟩:Addr).add j=⟨g,j,none⟩:=by
    unfold Addr.add;by_cases h0:j=0
    ·subst h0;rfl
    ·simp[h0]
   rw[ha];exact T
  have hf:=run_firstCells_some (P:=P) w.drew i.size n ⟨g,0,none⟩ n c xs (by rw[m,Nat.mul_one];exact U) q;have D:=growslice_fits (need:=n+k) (old:=c) (bytes:=i.bytes) ω (by rw[F];exact p);have hr:=Lib.run_append_grow_zeros (P:=P) w t tn ty e i z kq kn ht E hi hz (some ⟨g,0,none⟩) n c xs hf k hk ω ω ω H D;have O:=grownCap_ge w (n+k) c e;have Q:grownCap w (n+k) c e<=maxLen:=grownCap_le_maxLen w (n+k) c e G;refine⟨_,_,hr,w,grownCap w (n+k) c e,rfl,⟨xs++List.replicate k z++List.replicate (grownCap w (n+k) c e-(n+k)) z,?_,?_,?_,O,Q,?_⟩,.inr rfl,?_⟩
  ·unfold Row;rw[(φ:w.heap.size=w.drew.heap.size),heap_alloc_new,gR z _ v,gR z _ v];simp
  ·simp;omega
  ·simp;omega
  ·rw[List.take_append_of_le_length (by simp;omega),List.take_of_length_le (by simp;omega)]
  ·exact(Only.of_below (ps:=[g]) ((Below.refl _ w).drew.alloc ι _))
end
def mI(h:Hp)(x:Hd):Hd:=⟨x.size,x.fmt,x.spare,x.cls,h.last+1⟩
section
variable {w:World} {F:Foot} {h:Hp}
theorem HeapAt.drewN(H:HeapAt w F h)(n:Nat):HeapAt (w.drewN n) F h:=H.below ⟨rfl,rfl,rfl,Nat.le_refl _,fun _ _=>rfl⟩
theorem zm:(prog.info? 4).map (fun i=>(i.zero,i.size,i.bytes))=some (some (.bool false),1,1):=κ
theorem Grew.only{w w':World}{g n:Nat}{e:TypeId}{v:Value}{ys:List Value}(h:Grew w w' g e n v ys):Only [g] w w':=by obtain⟨_,_,_,_,_,h⟩:=h;exact h
theorem gk{w:World}{g:Nat}{e:TypeId}{xs:List Value}(h:Row w g e xs): ∀j u,xs[j]? =some u->w.cell? ((⟨g,0,none⟩:Addr).add j)=some u:=by
 intro j u c
 have b:(⟨g,0,none⟩:Addr).add j=⟨g,j,none⟩:=by
  unfold Addr.add;by_cases h0:j=0
  ·subst h0;rfl
  ·simp[h0]
 rw[b,h.ae];exact c
def Mid(w:World)(F:Foot)(h:Hp)(box:List Value)(e:Nat)(b:List Nat)(a c d:Nat)(X:World):Prop:=
 Row X F.p 91 [M a b.length c,M F.gs h.ws.length d,M F.gr 64 64,I h.size,Ψ e]/\
 Sl X a 25 b.length c (aC .u32 b)/\(a=F.gw∨w.heap.size<=a)/\Sl X F.gs 4 h.ws.length d (gJ h.st)/\Row X F.gr 26 (aC .u32 h.rt)/\Row X w 94 box/\Only F.l w X/\Spares X/\w.heap.size<X.heap.size
theorem Mid.below{w:World}{F:Foot}{h:Hp}{box:List Value}{f:Nat}{g:List Nat}{i c j:Nat}{X Y:World}(m:Mid w F h box f g i c j X)(a:Below X X Y)(t:5<=w.heap.size):Mid w F h box f g i c j Y:=by
 obtain⟨b,k,l,n,d,e,o,p,s⟩:=m;exact⟨b.below a b.lt,k.below a,l,n.below a,d.below a d.lt,e.below a e.lt,o.trans (qs:=[]) (Only.of_below a) (fun q r=>by cases r),p.below a ω,by have:=a.size;omega⟩
theorem Mid.start{w W:World}{F:Foot}{h:Hp}{k m b n:Nat}{p u v x P Q:Value}(R:Below w w W)(c: ∀g∈F.l,g<w.heap.size)(f:Row W F.p 91 [M F.gw h.ws.length k,M F.gs h.ws.length m,M F.gr 64 64,I h.size,Q])(z:Row W w 94 [p,u,v,x,P])(A:Sl W F.gw 25 h.ws.length k (aC .u32 h.ws))(B:Sl W F.gs 4 h.ws.length m (gJ h.st))(D:Row W F.gr 26 (aC .u32 h.rt))(hs:Spares W)(X:5<=F.p):Mid w F h [p,u,v,x,Ψ (b:Nat)] b h.ws F.gw k m (((W.drewN n).setCell ⟨F.p,4,none⟩ (Ψ (b:Nat))).setCell ⟨w,4,none⟩ (Ψ (b:Nat))):=by
 have S:=c _ (show F.p∈F.l by unfold Foot.l;simp);have T:=c _ (show F.gw∈F.l by unfold Foot.l;simp);have U:=c _ (show F.gs∈F.l by unfold Foot.l;simp);have V:=c _ (show F.gr∈F.l by unfold Foot.l;simp);have E:F.p≠F.gw:=by obtain⟨_,q⟩:=A.row;exact f.ne q δ
 have G:F.p≠F.gs:=by obtain⟨_,q⟩:=B.row;exact f.ne q δ
 have H:F.p≠F.gr:=f.ne D δ;have d:Below W W (W.drewN n):=⟨rfl,rfl,rfl,Nat.le_refl _,fun _ _=>rfl⟩;have j:=(z.drewN n).other (a:=⟨F.p,4,none⟩) (by show w.heap.size≠F.p;omega) (Ψ (b:Nat));have L:Only F.l w (W.drewN n):=Only.of_below (τ R d);refine⟨((f.drewN n).af 4 _).other (by show F.p≠w.heap.size;omega) _,((A.below d).other (by exact E.symm) _).other (by show F.gw≠w.heap.size;omega) _,.inl rfl,((B.below d).other (by exact G.symm) _).other (by show F.gs≠w.heap.size;omega) _,((D.drewN n).other (by exact H.symm) _).other (by show F.gr≠w.heap.size;omega) _,j.af 4 _,?_,?_,?_⟩
 ·refine(L.setCell (by unfold Foot.l;simp) _).trans (qs:=[w.heap.size]) ((Only.refl _ _).setCell (by simp) _) (fun q O=>?_);rw[List.mem_singleton]at O;exact .inr ω
 ·have N:=hs.1;refine(((hs.below d hs.1).only ((Only.refl [F.p] _).setCell (by simp) _) (by simp;omega)).only ((Only.refl [w.heap.size] _).setCell (by simp) _) ?_);simp;have:=c _ (show F.p∈F.l by unfold Foot.l;simp);omega
 ·have:=z.lt;simp[World.setCell,World.drewN];omega
theorem Mid.grow{w:World}{F:Foot}{h:Hp}{box:List Value}{D:Nat}{d b:List Nat}{f c E m:Nat}{X Y:World}{v:Value}(hm:Mid w F h box D d f c E X)(G: ∀g∈F.l,g<w.heap.size)(h5:5<=F.p/\5<=F.gw)(H:F.gw≠F.p/\F.gw≠F.gs/\F.gw≠F.gr)(hg:Grew X Y f 25 (d.length+m) v (aC .u32 d++aC .u32 b))(hn:b.length=m): ∃a r,v= .slice (some ⟨a,0,none⟩) (d.length+m) r/\Row Y F.p 91 [M f d.length c,M F.gs h.ws.length E,M F.gr 64 64,I h.size,Ψ D]/\Mid w F h box D (d++b) a r E (Y.setCell ⟨F.p,0,none⟩ v):=by
 obtain⟨m1,m2,z,m4,m5,P,Q,R,m9⟩:=hm;obtain⟨a,r,rfl,hs,A,i⟩:=hg;have mp:=G _ (show F.p∈F.l by unfold Foot.l;simp);have ms:=G _ (show F.gs∈F.l by unfold Foot.l;simp);have mr:=G _ (show F.gr∈F.l by unfold Foot.l;simp);obtain⟨b1,b2,b3⟩:=H;have T:F.p∉[f]:=by simp;rintro rfl;omega
 have U:F.gs∉[f]:=by simp;rintro rfl;omega
 have V:F.gr∉[f]:=by simp;rintro rfl;omega
 have u:=Q.size;have j:=m1.only i T;have L:=m4.only i U;have N:=m5.only i V;obtain⟨xs,B⟩:=m2.row
 have Z:w.heap.size≠f:=fun e=>by
  have:=P.ne B δ;exact this e
 have r6:=P.only i (by simp;exact Z)
 have k:a=F.gw∨w.heap.size<=a:=by
  rcases A with rfl|rfl
  ·exact z
  ·exact .inr u
 obtain⟨ys,p⟩:=hs.row;have e1:F.p≠a:=j.ne p δ;have e2:F.p≠F.gs:=by obtain⟨_,q⟩:=L.row;exact j.ne q δ
 have e3:F.p≠F.gr:=j.ne N δ;have O:(d++b).length=d.length+m:=by rw[List.length_append,hn]
 have x:Only F.l w Y:=Q.trans i (fun q S=>by
  rw[List.mem_singleton]at S;subst S;rcases z with e|e
  ·exact .inl (by rw[e];unfold Foot.l;simp)
  ·exact .inr e)
 refine⟨a,r,rfl,j,?_,?_,k,L.other (by exact e2.symm) _,N.other (by exact e3.symm) _,r6.other (by show w.heap.size≠F.p;omega) _,x.setCell (by unfold Foot.l;simp) _,?_,?_⟩
 ·rw[O];exact j.af 0 _
 ·rw[O,bw];exact hs.other (by exact e1.symm) _
 ·have h2:0∉[f]:=by
   simp;rintro rfl;have:=R.1;rcases z with e|e<;>omega
  exact(R.only i h2).only ((Only.refl [F.p] _).setCell (by simp) _) (by simp;omega)
 ·have:=i.size;simp[World.setCell];omega
theorem uP(l:List Bool)(k n:Nat)(a:n=l.length):(gJ l++List.replicate (3+k) (Value.bool false)).set n (.bool true)=gJ (l++(true :: List.replicate (2+k) false)):=by
 subst a;rw[(ω:3+k=(2+k)+1),List.replicate_succ];unfold gJ;rw[List.set_append_right _ _ (by simp)];simp
theorem Mid.finish{w:World}{F:Foot}{h:Hp}{box:List Value}{B c cs:Nat}{X Y:World}{v:Value}{f D x:Nat}{fs:List Nat}(hm:Mid w F h box (h.last+1) (h.ws++[Hd.w0 ⟨fs.length,f,D,x,h.last+1⟩,x,h.last+1]++fs) B c cs X)(U: ∀g∈F.l,g<w.heap.size)(L:h.st.length=h.ws.length)(j:5<=F.p/\5<=F.gw/\5<=F.gs/\5<=F.gr)(hG:Limb.Good (bU h f D x fs))(hpos:0<h.ws.length)(hg:Grew X Y F.gs 4 (h.ws.length+(3+fs.length)) v (gJ h.st++List.replicate (3+fs.length) (.bool false))): ∃d u,v= .slice (some ⟨d,0,none⟩) (h.ws.length+(3+fs.length)) u/\(∃l0 l1 l2 l3 l4,Row Y F.p 91 [l0,l1,l2,l3,l4])/\Sl (Y.setCell ⟨F.p,1,none⟩ v) d 4 (h.ws.length+(3+fs.length)) u (gJ h.st++List.replicate (3+fs.length) (.bool false))/\(Y.setCell ⟨F.p,1,none⟩ v).cell? ⟨F.p,1,none⟩=some v/\Step w F ((Y.setCell ⟨F.p,1,none⟩ v).setCell ⟨d,h.ws.length,none⟩ (.bool true)) ⟨F.p,B,d,F.gr⟩ (bU h f D x fs):=by
 obtain⟨R,S,m3,m4,m5,m6,m7,m8,m9⟩:=hm;obtain⟨d,u,rfl,hs,T,H⟩:=hg;have mp:=U _ (show F.p∈F.l by unfold Foot.l;simp);have ms:=U _ (show F.gs∈F.l by unfold Foot.l;simp);have mr:=U _ (show F.gr∈F.l by unfold Foot.l;simp);have hsz:=m7.size;obtain⟨xs,z⟩:=m4.row;obtain⟨ys,p⟩:=S.row;have k1:F.p≠F.gs:=R.ne z δ;have k2:B≠F.gs:=p.ne z δ;have k3:F.gr≠F.gs:=m5.ne z δ;have A:=R.only H (by simp;exact k1);have N:=S.only H (by simp;exact k2);have O:=m5.only H (by simp;exact k3);obtain⟨zs,m⟩:=hs.row;obtain⟨ys,p⟩:=N.row;have V:F.p≠d:=A.ne m δ;have e2:B≠d:=p.ne m δ;have e3:F.gr≠d:=O.ne m δ;have e4:F.p≠B:=A.ne p δ;have e5:F.p≠F.gr:=A.ne O δ;have Z:(bU h f D x fs).ws.length=h.ws.length+(3+fs.length):=by rw[gW];omega
 have hw:(bU h f D x fs).ws=h.ws++[Hd.w0 ⟨fs.length,f,D,x,h.last+1⟩,x,h.last+1]++fs:=by unfold bU;simp
 rw[<-hw]at S N R A
 have k:d=F.gs∨w.heap.size<=d:=by
  rcases T with e|e
  ·exact .inl e
  ·exact .inr ω
 have P:Only F.l w Y:=m7.trans H (fun q I=>by rw[List.mem_singleton]at I;subst I;exact .inl (by unfold Foot.l;simp));have E:=hs.other (a:=⟨F.p,1,none⟩) (by exact V.symm) (M d (h.ws.length+(3+fs.length)) u);have G:=A.af 1 (M d (h.ws.length+(3+fs.length)) u);have Q:Spares Y:=m8.only H (by simp;omega);refine⟨d,u,rfl,⟨_,_,_,_,_,A⟩,E,?_,⟨hG,?_,⟨c,u,?_,?_,?_⟩,?_,?_⟩,⟨rfl,rfl,m3,k⟩,?_⟩
 ·exact G.ae 1
 ·refine(Q.only ((Only.refl [F.p] _).setCell (by simp) _) (by simp;omega)).only ((Only.refl [d] _).setCell (by simp) _) ?_;simp;have:=m8.1;omega
 ·have:=G.other (a:=⟨d,h.ws.length,none⟩) (by exact V) (.bool true);rw[Z]at this ⊢;exact this
 ·exact((N.other (a:=⟨F.p,1,none⟩) (by exact e4.symm) _).other (by exact e2) _)
 ·have:=E.store (i:=h.ws.length) ω (.bool true);rw[uP _ _ _ L.symm]at this;rw[Z];exact this
 ·exact(O.other (a:=⟨F.p,1,none⟩) (by exact e5.symm) _).other (by exact e3) _
 ·refine⟨j.1,?_,?_,j.2.2.2⟩
  ·rcases m3 with e|e
   ·rw[e];exact j.2.1
   ·show 5<=B;omega
  ·rcases k with e|e
   ·show 5<=d;rw[e];exact j.2.2.1
   ·show 5<=d;omega
 ·have h1:=P.setCell (a:=⟨F.p,1,none⟩) (by unfold Foot.l;simp) (M d (h.ws.length+(3+fs.length)) u);refine h1.trans (qs:=[d]) ((Only.refl _ _).setCell (by simp) _) (fun q I=>?_);rw[List.mem_singleton]at I;subst I;rcases k with e|e
  ·exact .inl (by rw[e];unfold Foot.l;simp)
  ·exact .inr e
theorem mK(H:HeapAt w F h)(x:Hd)(u:cU h x.cls=true)(c:x.cls<4294967296)(hn:x.size<=65535)(f:de h x.size=false):Calls prog 45 #[E F.p,hdV x] w fun e w'=>e=Rt #[Ψ 0,I 4]/\Below w w w':=by
 have k:hdV x= .agg #[I x.size,I x.fmt,I x.spare,Ψ x.cls,Ψ x.ser]:=rfl;obtain⟨W,r,t,j,B⟩:=aA w 94 [I x.size,I x.fmt,I x.spare,Ψ x.cls,Ψ x.ser];have l:=hid r;have d:=H.ah j ι;have g:=k6 d x.cls c;rw[u]at g;have p:=hid g;have q:=hid (fun n=>dJ (d.drewN n));have v:=H.small;rw[k];obtain⟨M,N,O,c1,C,P,Q,D,hs⟩:=d.cells;obtain⟨R,S,T,U,X⟩:=t.cells5;unfold de at f;rw[Bool.and_eq_false_iff,decide_eq_false_iff_not,decide_eq_false_iff_not]at f;generalize x.size=a at*
 generalize x.fmt=Y at*
 generalize x.spare=Z at*
 generalize x.cls=x3 at*
 generalize x.ser=x4 at*
 generalize h.ws.length=n at*
 have L:=H.good.last;generalize h.last=G at*
 generalize h.size=b at*
 clear D hs d H g r B k u c c1 C t;by_cases h1:b<n+3+a
 ·have z:decide ((b:Int)<(n:Int)+3+(a:Int))=true:=dT;have i:decide (b<n+3+a)=true:=dT;clear f h1;go_enter func45,ntmps45;go_wp2_with fail;rw[<-l.out];refine(p.out).mono ?_;rintro e V ⟨rfl,rfl⟩;(try dsimp only);go_wp2_with fail;go_quiet ((go_at_call 44;exact Calls.quiet_of_same ((q.out _).mono (fun e w' h=>⟨h.1,h.2.symm⟩))));go_wp2_with fail;go_ret2;exact⟨rfl,below_drewN j _⟩
 ·have A:G=4294967295:=ω;have z:decide ((b:Int)<(n:Int)+3+(a:Int))=false:=dF;have i:decide (b<n+3+a)=false:=dF;subst A;clear f h1;go_enter func45,ntmps45;go_wp2_with fail;rw[<-l.out];refine(p.out).mono ?_;rintro e V ⟨rfl,rfl⟩;(try dsimp only);go_wp2_with fail;go_quiet ((go_at_call 44;exact Calls.quiet_of_same ((q.out _).mono (fun e w' h=>⟨h.1,h.2.symm⟩))));go_wp2_with fail;go_ret2;exact⟨rfl,below_drewN j _⟩
theorem heap_alloc(H:HeapAt w F h)(x:Hd)(hc:cU h x.cls=true)(hc2:x.cls<4294967296)(hok:(mI h x).Ok)(hr:de h x.size=true)(fill:Nat)(hfill:fill=if x.fmt=1∨x.fmt=4 then wd h.rt 0 else 0)(hG:Limb.Good (bU h x.fmt x.spare x.cls (List.replicate x.size fill))):Calls prog 45 #[E F.p,hdV x] w fun e w'=> ∃F',e=Rt #[Ψ (kR h:Nat),I 0]/\Step w F w' F' (bU h x.fmt x.spare x.cls (List.replicate x.size fill)):=by
 have ex:hdV x= .agg #[I x.size,I x.fmt,I x.spare,Ψ x.cls,Ψ x.ser]:=rfl;obtain⟨W,hW,r0,hB,hz⟩:=aA w 94 [I x.size,I x.fmt,I x.spare,Ψ x.cls,Ψ x.ser];have HW:=hid hW;have HH:=H.ah hB ι;have hC:=k6 HH x.cls hc2;rw[hc]at hC;have HC:=hid hC;have HM:=hid (fun n=>dJ (HH.drewN n));have hsm:=H.small;have hlim:=H.lt;obtain⟨lp,lw,ls,lr⟩:=H.low;obtain⟨a1,a2,a3,a4,a5,a6⟩:=HH.apart;have HP:=hid (fun X (hx:Spares X)=>AI X (mI h x) hok hx);have e1:hdV (mI h x)= .agg #[I x.size,I x.fmt,I x.spare,Ψ x.cls,Ψ (h.last+1:Nat)]:=rfl;have e2:(mI h x).cls=x.cls:=rfl;have e3:(mI h x).ser=h.last+1:=rfl;have HPt:=hid (fun X=>pA (mI h x) X);have e4:(mI h x).fmt=x.fmt:=rfl;rw[e1,e2,e3]at HP;rw[e1,e4]at HPt;obtain⟨w0,hw0⟩: ∃a,a=(mI h x).w0:=⟨_,rfl⟩;rw[<-hw0]at HP;unfold w3V at HP;have Hw0:=hid hw0;have hlen:=H.good.len;have hx0:x.size<=65535:=hok.size;have HFl:=hid (show fill<4294967296 by rw[hfill];split;exact H.good.rlim.wd 0;decide);obtain⟨cw,cs,rp,sw,ss⟩:=HH.row;have rr:=HH.roots;have hsp:=HH.spares;unfold de at hr;rw[Bool.and_eq_true,decide_eq_true_eq,decide_eq_true_eq]at hr;obtain⟨hr1,hr2⟩:=hr;have hl:=H.good.last;have mp:=hlim _ (mM F);have mw:=hlim _ (sR F);have mr:=hlim _ (Cq F);have ms:F.gs<w.heap.size:=hlim _ (by unfold Foot.l;simp);obtain⟨c0,c1,c2,c3,c4⟩:=rp.cells5;have z4:=rp.free 4;obtain⟨p0,p1,p2,p3,p4⟩:=r0.cells5;have y4:=r0.free 4;have d1:decide ((h.size:Int)<(h.ws.length:Int)+3+(x.size:Int))=false:=dF;have d1':decide (h.size<h.ws.length+3+x.size)=false:=dF;have q1:((h.last:Int)==4294967295)=false:=nE
 have q2:(h.last==4294967295)=false:=nE
 have n1:F.p≠w.heap.size:=ω
 have n2:w.heap.size≠F.p:=ω
 rw[ex];clear hW ex hc hc2 e1 e2 e3 e4 hw0 hC;go_enter func45,ntmps45;go_wp2_with fail;rw[<-HW.out];refine(HC.out).mono ?_;rintro e V ⟨rfl,rfl⟩;(try dsimp only);go_wp2_with fail;go_quiet ((go_at_call 44;exact Calls.quiet_of_same ((HM.out _).mono (fun e w' h=>⟨h.1,h.2.symm⟩))));go_wp2_with fail;rw[(φ:((h.last:Int)+1)=((h.last+1:Nat):Int))];obtain⟨la,hla⟩: ∃a,a=h.last+1:=⟨_,rfl⟩;rw[<-hla]at HP HPt ⊢;have Hla:=hid hla;clear hla;obtain⟨X1,hX1⟩: ∃X,X=((W.drewN nq).setCell ⟨F.p,4,none⟩ (Ψ (la:Nat))).setCell ⟨w,4,none⟩ (Ψ (la:Nat)):=⟨_,rfl⟩;rw[<-hX1]
 have hm:Mid w F h [I x.size,I x.fmt,I x.spare,Ψ x.cls,Ψ la] la h.ws F.gw cw cs X1:=by
  rw[hX1];exact Mid.start hB hlim rp r0 sw ss rr hsp lp
 have h5w:5<=w.heap.size:=ω
 clear hX1 HM HC HW hB rp r0 sw ss rr hsp c0 c1 c2 c3 c4 z4 p0 p1 p2 p3 p4 y4 d1 d1' q1 q2;refine(HP.out X1 hm.2.2.2.2.2.2.2.1).mono ?_;rintro e X2 ⟨rfl,hb2⟩;(try dsimp only);replace hm:=hm.below hb2 h5w;have hB1:=hm.2.2.2.2.2.2.2.2;obtain⟨X3,hX3,r7,hb3,hz3⟩:=aA X2 150 [Ψ w0,Ψ x.cls,Ψ la];have HX3:=hid hX3;replace hm:=hm.below hb3 h5w;clear HP hb2 hX3 hb3;go_wp2_with fail;rw[<-HX3.out];obtain⟨i0,hi,hz0,hz1,hz2⟩:=info_parts bz;have hmd:=hm.below (Below.refl _ X3).drew h5w;have r7d:Row X3.drew X2 150 (aC .u32 [w0,x.cls,la]):=r7;obtain⟨v4,X4,hr4,hg4⟩:=bW (P:=prog) (t:=22) (ty:=22) underlying22 hi hz0 hz1 hz2 rfl hmd.2.1 ⟨X2,0,none⟩ 3 3 ω (aC .u32 [w0,x.cls,la]) rfl (gk r7d) (by simp[aC,Value.oneCell']) (Nat.le_trans (show h.ws.length+3<=1048579 by omega) δ) ω;have ho4:=hg4.only;obtain⟨gw4,cp4,rfl,rp4,hm4⟩:=hmd.grow hlim ⟨lp,lw⟩ ⟨Ne.symm a1,a4,a5⟩ hg4 rfl;obtain⟨k0,-⟩:=hmd.1.cells5;obtain⟨k4,-⟩:=rp4.cells5;have z4:=rp4.free 0;have hX:Only [F.gw,F.p] X3 X3.drew:=(Only.refl _ _).drew;have hX4:Only [F.gw,F.p] X3 X4:=hX.trans ho4 (fun q hq=>by rw[List.mem_singleton]at hq;subst hq;exact .inl (by simp));have HR4:=hid hr4;clear hr4 ho4;refine wp_region_held (S:=fun X=>Only [F.gw,F.p] X3 X) κ ?_;refine tk 0 (E F.p) ?_;refine tk 1 (E F.p) ?_;refine tk 2 (E F.p) ?_;refine tk 3 (E F.p) ?_;refine tk 5 (M X2 3 3) ?_;refine wo 4 ?_;have HX:=hid hX;clear hX;unfold wpOp;go_simp;have hX:=HX.out;refine .inl ⟨hX,?_⟩;refine wo 6 ?_;refine cZ rfl rfl ?_;refine Lib.wp_append_run _ (.tmp 69) (.tmp 70) 22 22 rfl _ _ rfl rfl _ _ HR4.out ?_;replace hX:=hX4;refine⟨hX,?_⟩;simp only[Act.put,zA,zB,zC];refine tk 7 (E F.p) ?_;refine tk 8 (E F.p) ?_;refine wo 9 ?_;unfold wpOp;go_simp;replace hX:=hX.setCell (a:=⟨F.p,0,none⟩) (by simp) (M gw4 (h.ws.length+3) cp4);refine .inl ⟨hX,?_⟩;refine wpAnyH_done κ ?_ _;obtain⟨X5,hX5⟩: ∃X,X=X4.setCell ⟨F.p,0,none⟩ (M gw4 (h.ws.length+3) cp4):=⟨_,rfl⟩;rw[<-hX5]at hm4 ⊢;clear hX5 hX hX4 HR4 k0 k4 z4 rp4 hmd r7d r7 hm HX3 hz3;obtain⟨p0,p1,p2,p3,p4⟩:=hm4.2.2.2.2.2.1.cells5;go_wp2_with fail;refine(HPt.out X5).mono ?_;rintro e X6 ⟨rfl,hb6⟩;(try dsimp only);have hm6:=hm4.below hb6 h5w;clear hm4 hb6 HPt p0 p1 p2 p3 p4;obtain⟨bt,hbt⟩: ∃b,b=(decide (x.fmt=1)||decide (x.fmt=4)):=⟨_,rfl⟩;rw[<-hbt]
 have hft:fill=if bt=true then wd h.rt 0 else 0:=by
  rw[hfill,hbt];by_cases c1:x.fmt=1∨x.fmt=4
  ·rw[if_pos c1,if_pos (by simpa using c1)]
  ·rw[if_neg c1,if_neg (by simpa using c1)]
 have Hft:=hid hft;clear hft hfill hbt;obtain⟨p0,p1,p2,p3,p4⟩:=hm6.2.2.2.2.2.1.cells5;obtain⟨c0,c1,c2,c3,c4⟩:=hm6.1.cells5;go_upto_if 75 with fail
 go_cut [9] (fun s9 wx=>s9= .int .u32 (fill:Nat)/\X6=wx)
 case first=>
  cases bt with
  |false=>
   obtain rfl:fill=0:=Hft.out;clear Hft;go_wp2_with fail;go_meet;exact⟨rfl,rfl⟩
  |true=>
   obtain rfl:fill=wd h.rt 0:=Hft.out;clear Hft;have rr6:=hm6.2.2.2.2.1;have cx:=rr6.cell (i:=0) (by rw[H.good.rlen];decide);have sl:=rr6.sl (n:=64) (by rw[aD];exact H.good.rlen.symm) δ;have ix:=fun W=>sl.index 44 underlying44 ch W .i64 0 δ
   rw[(φ:((0:Nat):Int)=0)]at ix;clear sl rr6;go_wp2_with fail;go_meet;exact⟨rfl,rfl⟩
 case rest=>
  obtain⟨rfl,rfl⟩:=hcut;clear Hft c0 c1 c2 c3 c4;have hfl:fill<4294967296:=HFl.out;go_wp2_with fail;clear p0 p1 p2 p3 p4;go_loopw[84] (fun i wr=> ∃(k gw c:Nat),k<=x.size/\i= .int .i64 k/\Mid w F h [I x.size,I x.fmt,I x.spare,Ψ x.cls,Ψ la] la (h.ws++[w0,x.cls,la]++List.replicate k fill) gw c cs wr) (fun i _=>x.size-(intOf i).toNat);case atStart=>exact⟨0,gw4,cp4,Nat.zero_le _,rfl,by rw[List.replicate_zero,List.append_nil];exact hm6⟩
  case round=>
   clear hm6;obtain⟨k,gw,cp,hk,rfl,hm7⟩:=hrel;by_cases h0:k<x.size
   ·have d1:decide ((k:Int)<(x.size:Int))=true:=dT;have d2:decide (k<x.size)=true:=decide_eq_true h0;have hb8:Below wr.heap.size wr (wr.alloc (.cells #[Ψ (fill:Nat)] 25)):=(Below.refl _ _).alloc ι _;have hm8:=hm7.below hb8 h5w;have hLen:(h.ws++[w0,x.cls,la]++List.replicate k fill).length=h.ws.length+3+k:=by simp;omega
    obtain⟨v9,X9,hr9,hg9⟩:=bW (P:=prog) (t:=22) (ty:=22) underlying22 hi hz0 hz1 hz2 rfl hm8.2.1 ⟨wr.heap.size,0,none⟩ 1 1 ω (aC .u32 [fill]) rfl (cell_one_new _ _ _) (by simp[aC,Value.oneCell']) (Nat.le_trans (show(h.ws++[w0,x.cls,la]++List.replicate k fill).length+1<=1048577 by omega) δ) ω;obtain⟨gw9,cp9,rfl,rp9,hm9⟩:=hm8.grow hlim ⟨lp,lw⟩ ⟨Ne.symm a1,a4,a5⟩ hg9 rfl;rw[hLen]at hr9 rp9;have e9:h.ws++[w0,x.cls,la]++List.replicate k fill++[fill]=h.ws++[w0,x.cls,la]++List.replicate (k+1) fill:=by rw[List.append_assoc,<-List.replicate_succ']
    rw[e9]at hm9;have HM9:=hid hm9;have HR9:=hid hr9;obtain⟨c0,-⟩:=hm7.1.cells5;rw[hLen]at c0;obtain⟨k4,-⟩:=rp9.cells5;have z4:=rp9.free 0;clear hr9 hm9 hm8 hm7 hg9 e9 rp9 hb8;rw[hLen]at HM9;go_wp2_with(at_builtin;refine Lib.wpList_append_run _ rfl _ _ _ _ rfl _ _ rfl rfl _ _ HR9.out ?_);go_roundw;case rel=>exact⟨k+1,gw9,cp9,h0,by simp,HM9.out⟩
    case measure=>exact μ
   ·obtain rfl:k=x.size:=ω
    have d1:decide ((x.size:Int)<(x.size:Int))=false:=dF;have d2:decide (x.size<x.size)=false:=dF;go_wp2_with fail
    have hm8:Mid w F h [I x.size,I x.fmt,I x.spare,Ψ x.cls,Ψ la] (h.last+1) (h.ws++[Hd.w0 ⟨(List.replicate x.size fill).length,x.fmt,x.spare,x.cls,h.last+1⟩,x.cls,h.last+1]++List.replicate x.size fill) gw cp cs wr.drew:=by
     have e:Hd.w0 ⟨x.size,x.fmt,x.spare,x.cls,la⟩=w0:=(by rw[Hw0.out,Hla.out];rfl);rw[List.length_replicate,<-Hla.out,e];exact hm7.below (Below.refl _ wr).drew h5w
    obtain⟨i1,ki,kz0,kz1,kz2⟩:=info_parts zm;have hLs:(List.replicate x.size fill).length=x.size:=List.length_replicate;obtain⟨v9,X9,hr9,hg9⟩:=kZ (P:=prog) (t:=89) (tn:=3) (ty:=89) underlying89 (kn:= .i64) underlying3 ki kz0 kz1 kz2 rfl rfl hm8.2.2.2.1 .i64 (3+x.size) ω (Nat.le_trans (show h.ws.length+(3+x.size)<=1048576 by omega) δ) ω;have ho9:=hg9.only;have hg9':=hg9;rw[<-hLs]at hg9';rw[List.length_replicate]at hg9';obtain⟨gs9,cp9,rfl,⟨l0,l1,l2,l3,l4,rp9⟩,hs9,hc9,hst9⟩:=hm8.finish hlim hlen H.low hG H.good.pos (by rw[hLs];exact hg9);rw[hLs]at hs9 hc9 hst9 hr9;obtain⟨-,k1,-⟩:=hm8.1.cells5;obtain⟨-,k4,-⟩:=rp9.cells5;have z4:=rp9.free 1;have hX:Only [F.gs,F.p] wr wr.drew:=(Only.refl _ _).drew;have hX9:Only [F.gs,F.p] wr X9:=hX.trans ho9 (fun q hq=>by rw[List.mem_singleton]at hq;subst hq;exact .inl (by simp));have HKb:=hid (fun X (hX:Only [F.gs,F.p] wr X)=>show X.cell? ⟨w,0,none⟩=O (I x.size)from(hm7.2.2.2.2.2.1.only hX (by simp;omega)).ae 0);have HR9:=hid hr9;have HS9:=hid hst9;have HG9:=hid hs9;have HC9:=hid hc9;clear hr9 hst9 hs9 hc9 hg9 hg9' hm7 hm8 rp9 ho9;refine wp_region_held (S:=fun X=>Only [F.gs,F.p] wr X) κ ?_;refine tk 0 (E F.p) ?_;refine tk 1 (E F.p) ?_;refine tk 2 (E F.p) ?_;refine tk 3 (Θ F.p 1) ?_;refine tk 5 (E w) ?_;refine tk 6 (I x.size) ?_ (y:=fun X hX=>by have kb:=HKb.out X hX;go_simp);refine tk 7 (I ((3+x.size:Nat):Int)) ?_ (y:=fun X hX=>by go_simp;(first |done|exact aF ω ω|(rw[aF ω ω];omega)));refine wo 4 ?_;have HX:=hid hX;clear hX;unfold wpOp;go_simp;have hX:=HX.out;refine .inl ⟨hX,?_⟩;refine wo 8 ?_;refine cZ rfl rfl ?_;refine Lib.wp_append_run _ (.tmp 101) (.tmp 104) 89 3 rfl _ _ rfl rfl _ _ HR9.out ?_;replace hX:=hX9;refine⟨hX,?_⟩;simp only[Act.put,zA,zB,zC];refine tk 9 (E F.p) ?_;refine tk 10 (Θ F.p 1) ?_;refine wo 11 ?_;unfold wpOp;go_simp;replace hX:=hX.setCell (a:=⟨F.p,1,none⟩) (by simp) (M gs9 (h.ws.length+(3+x.size)) cp9);refine .inl ⟨hX,?_⟩;refine wpAnyH_done κ ?_ _;have hs9:=HG9.out;have hc9:=HC9.out;have HST:=HS9.out;generalize X9.setCell ⟨F.p,1,none⟩ (M gs9 (h.ws.length+(3+x.size)) cp9)=Z at*
    have HSZ:=hid HST;clear HST;have ix:=fun W=>hs9.index 89 underlying89 qM W .i64 h.ws.length ω
    have cx:=hs9.cell (i:=h.ws.length) ω;rw[List.getElem?_append_right (by unfold gJ;rw[List.length_map];omega),show h.ws.length-(gJ h.st).length=0 from by unfold gJ;rw[List.length_map];omega,show(List.replicate (3+x.size) (Value.bool false))[0]? =some (.bool false)from by rw[List.getElem?_replicate,if_pos ω]]at cx;have zx:=hs9.free h.ws.length;have HA:=hid (fun X=>EI X h.ws.length (by have:=H.good.pos;omega) ω);clear hs9 HS9 HG9 HC9 HR9 HKb hX9 hX k1 k4 z4;go_wp2_with fail;refine(HA.out _).mono ?_;rintro e Z1 ⟨rfl,rfl⟩;(try dsimp only);go_wp2_with fail;go_ret2;exact⟨_,rfl,HSZ.out⟩
end
def Moved(w:World)(F:Foot)(w':World)(b:Hp):Prop:= ∃a,Step w F w' a b
section
variable {w:World} {F:Foot} {h:Hp}
theorem mE{c f n:Nat}{o:Nat}{b:Hp}(e:aW h c f n=some (o,b)):cU h c=true/\de h n=true/\o=kR h/\b=bU h f 0 c (List.replicate n (if f=1∨f=4 then wd h.rt 0 else 0)):=by
 unfold aW at e;split at e
 ·rename_i a;rw[Bool.and_eq_true]at a;rw[Option.some.injEq,Prod.mk.injEq]at e;exact⟨a.1,a.2,e.1.symm,e.2.symm⟩
 ·cases e
theorem g9(H:HeapAt w F h)(c f n o:Nat)(r:Hp)(h1:1<=f)(z:f<=4)(A:n<=65535)(B:aW h c f n=some (o,r)):Calls prog 11 #[E F.p,Ψ c,I f,I n] w fun e w'=>e=Rt #[Ψ o,I 0]/\Moved w F w' r:=by
 obtain⟨k,q,x,y⟩:=mE B;have d:=eB H.good k;have s:=iC H.good h1 z A (v:=if f=1∨f=4 then wd h.rt 0 else 0) (by split;exact H.good.rlim.wd 0;decide) k q;have p:=heap_alloc H ⟨n,f,0,c,0⟩ k d ⟨A,h1,z,Nat.zero_le _,.inl rfl⟩ q _ rfl s;have t:hdV ⟨n,f,0,c,0⟩= .agg #[I n,I f,I 0,Ψ c,Ψ 0]:=rfl;rw[t]at p;have j:Calls prog 45 #[E F.p,.agg #[I n,I f,I 0,Ψ c,Ψ 0]] w fun e w'=>e=Rt #[Ψ o,I 0]/\Moved w F w' r:=p.mono fun e w' ⟨N,a,b⟩=>⟨by rw[x];exact a,N,by rw[y];exact b⟩
 have O:decide ((f:Int)<1)=false:=dF;have C:decide (f<1)=false:=dF;have u:decide (f=0)=false:=dF;have P:decide ((4:Int)<(f:Int))=false:=dF;have D:decide (4<f)=false:=dF;have Q:decide ((n:Int)<0)=false:=dF;have R:decide ((65535:Int)<(n:Int))=false:=dF;have G:decide (65535<n)=false:=dF;have L:=hid j;clear p j t s d k q B x y H;go_enter func11,ntmps11;go_wp2_with fail;refine(L.out).mono ?_;rintro e V ⟨rfl,hS⟩;have M:=hid hS;clear hS;go_wp2;go_ret2;exact⟨rfl,M.out⟩
theorem mX(H:HeapAt w F h)(c f n:Nat)(h1:1<=f)(x:f<=4)(r:n<=65535)(d:cU h c=true)(j:de h n=false):Calls prog 11 #[E F.p,Ψ c,I f,I n] w fun e w'=>e=Rt #[Ψ 0,I 4]/\Below w w w':=by
 have a:=eB H.good d;have b:=mK H ⟨n,f,0,c,0⟩ d a r j;have g:hdV ⟨n,f,0,c,0⟩= .agg #[I n,I f,I 0,Ψ c,Ψ 0]:=rfl;rw[g]at b;have s:decide ((f:Int)<1)=false:=dF;have k:decide (f<1)=false:=dF;have i:decide (f=0)=false:=dF;have t:decide ((4:Int)<(f:Int))=false:=dF;have l:decide (4<f)=false:=dF;have u:decide ((n:Int)<0)=false:=dF;have v:decide ((65535:Int)<(n:Int))=false:=dF;have p:decide (65535<n)=false:=dF;have q:=hid b;clear b g a d j H;go_enter func11,ntmps11;go_wp2_with fail;refine(q.out).mono ?_;rintro e V ⟨rfl,hB⟩;go_wp2;go_ret2;exact⟨rfl,hB⟩
end
theorem xd(w:World)(n:Nat)(d:n<=262140):Calls prog 253 #[I n] w fun e w'=>e=Rt #[I ((n+3)/4:Nat),I (4*((n+3)/4)-n:Nat),I 0]/\w=w':=by
 have b:decide ((n:Int)<0)=false:=dF;have c:decide ((262140:Int)<(n:Int))=false:=dF;have a:decide (262140<n)=false:=dF;go_enter func253,ntmps253;go_wp2;refine bodyPost_ret (v:= .tuple #[I (((n:Int)+3)/4),I (4*(((n:Int)+3)/4)-n),I 0]) (by simp[results,results253,go_sem]) rfl ⟨?_,rfl⟩;rw[(ω:(((n+3)/4:Nat):Int)=((n:Int)+3)/4),(ω:((4*((n+3)/4)-n:Nat):Int)=4*(((n:Int)+3)/4)-n)]
theorem ns{a b:Nat}(m:Nat)(c:m<=24)(d:a<2^m)(e:b<4294967296)(f:b%2^m=0):bits .or .u32 (a:Int) (b:Int)=((a+b:Nat):Int):=by
 have:2^m<=2^24:=Nat.pow_le_pow_right δ c;rw[u32_or_nat a b ω e,Nat.or_comm,nat_join m b a f d,Nat.add_comm]
theorem bS{x:Int}(h1:0<=x)(a:x<4294967296):IntKind.u32.wrap x=x:=by
 simp only[IntKind.wrap,IntKind.bits,IntKind.signed];simp;omega
theorem FN{a x:Nat}(b:a<2^0)(c:x<256):bits .or .u32 (a:Int) (x:Int)=((a+x:Nat):Int):=ns 0 δ b ω ω
theorem Ft{a x:Nat}(b:a<2^8)(c:x<256):bits .or .u32 (a:Int) ((x:Int)*256)=((a+x*256:Nat):Int):=by
 rw[(ω:(x:Int)*256=((x*256:Nat):Int))];exact ns 8 δ b ω ω
theorem FP{a x:Nat}(b:a<2^16)(c:x<256):bits .or .u32 (a:Int) ((x:Int)*65536)=((a+x*65536:Nat):Int):=by
 rw[(ω:(x:Int)*65536=((x*65536:Nat):Int))];exact ns 16 δ b ω ω
theorem Fv{a x:Nat}(b:a<2^24)(c:x<256):bits .or .u32 (a:Int) ((x:Int)*16777216)=((a+x*16777216:Nat):Int):=by
 rw[(ω:(x:Int)*16777216=((x*16777216:Nat):Int))];exact ns 24 δ b ω ω
theorem jQ(w:World)(a:Option Addr)(t:List Nat)(n cap:Nat)(hlay:Lay .u8 w a t)(ht:B8 t)(hn:n=t.length)(hl:n<=262140):Calls prog 198 #[.slice a n cap] w fun e w'=>(∃g,e=Rt #[M g ((n+3)/4) ((n+3)/4),I (4*((n+3)/4)-n:Nat),I 0]/\w.heap.size<=g/\Row w' g 25 (aC .u32 (aU t)))/\Below w w w':=by
 have HL:=hid (xd w n hl);obtain⟨b1,off1,hix,hcx,_⟩:=hlay.use 50 5 underlying50 fJ cap;rw[<-hn]at hix hcx;have HIX:=hid hix;have HCX:=hid hcx;obtain⟨m,hm⟩:=ξ ((n+3)/4);have hl4:=HL.out;rw[<-hm]at hl4 ⊢;have HL:=hid hl4;have hz0:=uw t;have hza:=vI t (k:=n) ω;rw[<-hn,<-hm]at hz0;have hz1:=co t;rw[<-hn,<-hm]at hz1;have HZ1:=hid hz1;have hst:=fun k (hk:k<n)=>uI ht (k:=k) ω
 rw[<-hn,<-hm]at hst;have HST:=hid hst
 have HT:=hid (show∀k,wd t k<256 from fun k=>by
  by_cases hk:k<t.length
  ·rw[wd_lt hk];exact ht _ (List.getElem_mem _)
  ·rw[eR ω];decide)
 have HZ0:=hid hz0;have HZA:=hid hza;have hm2:m<=65535:=ω
 have Hm:=hid hm;clear hix hcx hl4 hz0 hza hz1 hst hm hlay ht hn;go_enter func198,ntmps198;go_wp2_with fail;refine(HL.out).mono ?_;rintro e w1 ⟨rfl,rfl⟩;clear HL;go_wp2_with(at_make;refine aI rfl _ _ _ rfl 25 (Ψ 0) 4 underlying22 bz rfl _ _ _ _ m m rfl rfl rfl rfl ι ω ω ?_;intro w1 g hg1 hg2 hrow hbel);rw[<-aG,<-HZ0.out]at hrow;clear HZ0;go_loopw[24] (fun i wr=> ∃k:Nat,k<=n/\i= .int .i64 k/\Row wr g 25 (aC .u32 (f9 t k))/\Below w w wr) (fun i _=>n-(intOf i).toNat);case atStart=>exact⟨0,Nat.zero_le _,rfl,hrow,hbel⟩
 case round=>
  clear hrow hbel;obtain⟨k,hk,rfl,hrow,hB⟩:=hrel;by_cases h0:k<n
  ·have d1:decide ((k:Int)<(n:Int))=true:=dT;have d2:decide (k<n)=true:=decide_eq_true h0;have ix:=HIX.out wr .i64 k ω ω;rw[Int.toNat_natCast]at ix;have cx:=HCX.out wr hB k h0;have hx:=HT.out k;obtain⟨s1,s2,s3⟩:=HST.out k h0;go_upto_region 8 with fail
   obtain⟨q,hq⟩:=ξ (k/4);rw[<-hq]at s1 s2 s3;have hq1:(k:Int)/4=(q:Int):=ω
   have rl:=hrow.cell (i:=q) (by rw[HZ1.out];exact s1);have rf:=hrow.free q;have sl:=hrow.sl (n:=m) (by rw[aD,HZ1.out]) (Nat.le_trans hm2 δ);have HI2:=hid (fun W=>sl.index 22 underlying22 aK W .i64 q s1);have hrs:=fun X (d:Nat) (h:Row X g 25 (aC .u32 (f9 t k)))=>h.store (k:= .u32) q d d rfl
   generalize wd (f9 t k) q=a0 at*
   generalize wd t k=x0 at*
   clear ix cx sl;have hX:Only [g] wr wr.drew:=(Only.refl _ _).drew;have rld:wr.drew.cell? ⟨g,q,none⟩=O (Ψ (a0:Nat)):=rl;have rfd:wr.drew.frozen? ⟨g,q,none⟩=false:=rf;have HRS:=hid hrs;have HR0:=hid hrow;have S2:=hid s2;have S3:=hid s3;have HXX:=hid hx;clear hrs hrow rl rf s1 s2 s3 hq hx d1 d2 HIX HCX HT HZA;have h4:k%4=0∨k%4=1∨k%4=2∨k%4=3:=ω
   rcases h4 with h4|h4|h4|h4
   ·have hm1:(k:Int)%4=0:=ω;have s2:=S2.out;rw[h4]at s2;have S2a:Hid (a0<2^0):=Nat.lt_of_lt_of_eq s2 δ;have s3:=S3.out;rw[h4,(ω:a0+x0*256^0=a0+x0)]at s3;have S3a:=hid s3;clear s2 s3 S2 S3 h4;refine wp_region_held (S:=fun X=>Only [g] wr X) κ ?_;refine tk 0 (M g m m) ?_;refine tk 1 (I k) ?_;refine tk 2 (I q) ?_ (y:=fun X hX=>by go_simp;all_goals(first |(exact bS (by have:=HXX.out;omega) (by have:=HXX.out;omega))|(rw[Int.tmod_eq_emod_of_nonneg ω];omega)|omega|exact aF ω ω|(rw[aF ω ω];omega)));refine tk 3 (Θ g q) ?_ (y:=fun X hX=>by have ix:=HI2.out;go_simp);refine tk 5 (.int .u8 (x0:Nat)) ?_;refine tk 6 (Ψ (x0:Nat)) ?_ (y:=fun X hX=>by go_simp;all_goals(first |(exact bS (by have:=HXX.out;omega) (by have:=HXX.out;omega))|(rw[Int.tmod_eq_emod_of_nonneg ω];omega)|omega|exact aF ω ω|(rw[aF ω ω];omega)));refine tk 7 (I k) ?_;refine tk 8 (I 0) ?_ (y:=fun X hX=>by go_simp;all_goals(first |(exact bS (by have:=HXX.out;omega) (by have:=HXX.out;omega))|(rw[Int.tmod_eq_emod_of_nonneg ω];omega)|omega|exact aF ω ω|(rw[aF ω ω];omega)));refine tk 9 (I 0) ?_ (y:=fun X hX=>by go_simp;all_goals(first |(exact bS (by have:=HXX.out;omega) (by have:=HXX.out;omega))|(rw[Int.tmod_eq_emod_of_nonneg ω];omega)|omega|exact aF ω ω|(rw[aF ω ω];omega)));refine tk 10 (Ψ (x0:Int)) ?_ (y:=fun X hX=>by go_simp;all_goals(first |(exact bS (by have:=HXX.out;omega) (by have:=HXX.out;omega))|(rw[Int.tmod_eq_emod_of_nonneg ω];omega)|omega|exact aF ω ω|(rw[aF ω ω];omega)));refine wo 4 ?_;have HX:=hid hX;clear hX;unfold wpOp;go_simp;have hX:=HX.out;refine .inl ⟨hX,?_⟩;refine tk 11 (Ψ ((a0+x0:Nat):Int)) ?_ (y:=fun X hX=>by go_simp;rw[FN S2a.out HXX.out];all_goals omega);refine tk 12 (Θ g q) ?_ (y:=fun X hX=>by have ix:=HI2.out;go_simp);refine wo 13 ?_;unfold wpOp;go_simp;replace hX:=hX.setCell (a:=⟨g,q,none⟩) (by simp) (Ψ ((a0+x0:Nat):Int));refine .inl ⟨hX,?_⟩;refine wpAnyH_done κ ?_ _;have hE:=HRS.out wr.drew (a0+x0) HR0.out;rw[<-S3a.out]at hE;have HE:=hid hE;have HB:=hid (aw hB.drew (g:=g) (i:=q) ω (Ψ ((a0+x0:Nat):Int)));clear hE hX;go_wp2;go_roundw;case rel=>exact⟨k+1,h0,by simp,HE.out,HB.out⟩
    case measure=>exact μ
   ·have hm1:(k:Int)%4=1:=ω;have s2:=S2.out;rw[h4]at s2;have S2a:Hid (a0<2^8):=Nat.lt_of_lt_of_eq s2 δ;have s3:=S3.out;rw[h4,(ω:a0+x0*256^1=a0+x0*256)]at s3;have S3a:=hid s3;clear s2 s3 S2 S3 h4;refine wp_region_held (S:=fun X=>Only [g] wr X) κ ?_;refine tk 0 (M g m m) ?_;refine tk 1 (I k) ?_;refine tk 2 (I q) ?_ (y:=fun X hX=>by go_simp;all_goals(first |(exact bS (by have:=HXX.out;omega) (by have:=HXX.out;omega))|(rw[Int.tmod_eq_emod_of_nonneg ω];omega)|omega|exact aF ω ω|(rw[aF ω ω];omega)));refine tk 3 (Θ g q) ?_ (y:=fun X hX=>by have ix:=HI2.out;go_simp);refine tk 5 (.int .u8 (x0:Nat)) ?_;refine tk 6 (Ψ (x0:Nat)) ?_ (y:=fun X hX=>by go_simp;all_goals(first |(exact bS (by have:=HXX.out;omega) (by have:=HXX.out;omega))|(rw[Int.tmod_eq_emod_of_nonneg ω];omega)|omega|exact aF ω ω|(rw[aF ω ω];omega)));refine tk 7 (I k) ?_;refine tk 8 (I 1) ?_ (y:=fun X hX=>by go_simp;all_goals(first |(exact bS (by have:=HXX.out;omega) (by have:=HXX.out;omega))|(rw[Int.tmod_eq_emod_of_nonneg ω];omega)|omega|exact aF ω ω|(rw[aF ω ω];omega)));refine tk 9 (I 8) ?_ (y:=fun X hX=>by go_simp;all_goals(first |(exact bS (by have:=HXX.out;omega) (by have:=HXX.out;omega))|(rw[Int.tmod_eq_emod_of_nonneg ω];omega)|omega|exact aF ω ω|(rw[aF ω ω];omega)));refine tk 10 (Ψ ((x0*256:Nat):Int)) ?_ (y:=fun X hX=>by go_simp;all_goals(first |(exact bS (by have:=HXX.out;omega) (by have:=HXX.out;omega))|(rw[Int.tmod_eq_emod_of_nonneg ω];omega)|omega|exact aF ω ω|(rw[aF ω ω];omega)));refine wo 4 ?_;have HX:=hid hX;clear hX;unfold wpOp;go_simp;have hX:=HX.out;refine .inl ⟨hX,?_⟩;refine tk 11 (Ψ ((a0+x0*256:Nat):Int)) ?_ (y:=fun X hX=>by go_simp;rw[Ft S2a.out HXX.out];all_goals omega);refine tk 12 (Θ g q) ?_ (y:=fun X hX=>by have ix:=HI2.out;go_simp);refine wo 13 ?_;unfold wpOp;go_simp;replace hX:=hX.setCell (a:=⟨g,q,none⟩) (by simp) (Ψ ((a0+x0*256:Nat):Int));refine .inl ⟨hX,?_⟩;refine wpAnyH_done κ ?_ _;have hE:=HRS.out wr.drew (a0+x0*256) HR0.out;rw[<-S3a.out]at hE;have HE:=hid hE;have HB:=hid (aw hB.drew (g:=g) (i:=q) ω (Ψ ((a0+x0*256:Nat):Int)));clear hE hX;go_wp2;go_roundw;case rel=>exact⟨k+1,h0,by simp,HE.out,HB.out⟩
    case measure=>exact μ
   ·have hm1:(k:Int)%4=2:=ω;have s2:=S2.out;rw[h4]at s2;have S2a:Hid (a0<2^16):=Nat.lt_of_lt_of_eq s2 δ;have s3:=S3.out;rw[h4,(ω:a0+x0*256^2=a0+x0*65536)]at s3;have S3a:=hid s3;clear s2 s3 S2 S3 h4;refine wp_region_held (S:=fun X=>Only [g] wr X) κ ?_;refine tk 0 (M g m m) ?_;refine tk 1 (I k) ?_;refine tk 2 (I q) ?_ (y:=fun X hX=>by go_simp;all_goals(first |(exact bS (by have:=HXX.out;omega) (by have:=HXX.out;omega))|(rw[Int.tmod_eq_emod_of_nonneg ω];omega)|omega|exact aF ω ω|(rw[aF ω ω];omega)));refine tk 3 (Θ g q) ?_ (y:=fun X hX=>by have ix:=HI2.out;go_simp);refine tk 5 (.int .u8 (x0:Nat)) ?_;refine tk 6 (Ψ (x0:Nat)) ?_ (y:=fun X hX=>by go_simp;all_goals(first |(exact bS (by have:=HXX.out;omega) (by have:=HXX.out;omega))|(rw[Int.tmod_eq_emod_of_nonneg ω];omega)|omega|exact aF ω ω|(rw[aF ω ω];omega)));refine tk 7 (I k) ?_;refine tk 8 (I 2) ?_ (y:=fun X hX=>by go_simp;all_goals(first |(exact bS (by have:=HXX.out;omega) (by have:=HXX.out;omega))|(rw[Int.tmod_eq_emod_of_nonneg ω];omega)|omega|exact aF ω ω|(rw[aF ω ω];omega)));refine tk 9 (I 16) ?_ (y:=fun X hX=>by go_simp;all_goals(first |(exact bS (by have:=HXX.out;omega) (by have:=HXX.out;omega))|(rw[Int.tmod_eq_emod_of_nonneg ω];omega)|omega|exact aF ω ω|(rw[aF ω ω];omega)));refine tk 10 (Ψ ((x0*65536:Nat):Int)) ?_ (y:=fun X hX=>by go_simp;all_goals(first |(exact bS (by have:=HXX.out;omega) (by have:=HXX.out;omega))|(rw[Int.tmod_eq_emod_of_nonneg ω];omega)|omega|exact aF ω ω|(rw[aF ω ω];omega)));refine wo 4 ?_;have HX:=hid hX;clear hX;unfold wpOp;go_simp;have hX:=HX.out;refine .inl ⟨hX,?_⟩;refine tk 11 (Ψ ((a0+x0*65536:Nat):Int)) ?_ (y:=fun X hX=>by go_simp;rw[FP S2a.out HXX.out];all_goals omega);refine tk 12 (Θ g q) ?_ (y:=fun X hX=>by have ix:=HI2.out;go_simp);refine wo 13 ?_;unfold wpOp;go_simp;replace hX:=hX.setCell (a:=⟨g,q,none⟩) (by simp) (Ψ ((a0+x0*65536:Nat):Int));refine .inl ⟨hX,?_⟩;refine wpAnyH_done κ ?_ _;have hE:=HRS.out wr.drew (a0+x0*65536) HR0.out;rw[<-S3a.out]at hE;have HE:=hid hE;have HB:=hid (aw hB.drew (g:=g) (i:=q) ω (Ψ ((a0+x0*65536:Nat):Int)));clear hE hX;go_wp2;go_roundw;case rel=>exact⟨k+1,h0,by simp,HE.out,HB.out⟩
    case measure=>exact μ
   ·have hm1:(k:Int)%4=3:=ω;have s2:=S2.out;rw[h4]at s2;have S2a:Hid (a0<2^24):=Nat.lt_of_lt_of_eq s2 δ;have s3:=S3.out;rw[h4,(ω:a0+x0*256^3=a0+x0*16777216)]at s3;have S3a:=hid s3;clear s2 s3 S2 S3 h4;refine wp_region_held (S:=fun X=>Only [g] wr X) κ ?_;refine tk 0 (M g m m) ?_;refine tk 1 (I k) ?_;refine tk 2 (I q) ?_ (y:=fun X hX=>by go_simp;all_goals(first |(exact bS (by have:=HXX.out;omega) (by have:=HXX.out;omega))|(rw[Int.tmod_eq_emod_of_nonneg ω];omega)|omega|exact aF ω ω|(rw[aF ω ω];omega)));refine tk 3 (Θ g q) ?_ (y:=fun X hX=>by have ix:=HI2.out;go_simp);refine tk 5 (.int .u8 (x0:Nat)) ?_;refine tk 6 (Ψ (x0:Nat)) ?_ (y:=fun X hX=>by go_simp;all_goals(first |(exact bS (by have:=HXX.out;omega) (by have:=HXX.out;omega))|(rw[Int.tmod_eq_emod_of_nonneg ω];omega)|omega|exact aF ω ω|(rw[aF ω ω];omega)));refine tk 7 (I k) ?_;refine tk 8 (I 3) ?_ (y:=fun X hX=>by go_simp;all_goals(first |(exact bS (by have:=HXX.out;omega) (by have:=HXX.out;omega))|(rw[Int.tmod_eq_emod_of_nonneg ω];omega)|omega|exact aF ω ω|(rw[aF ω ω];omega)));refine tk 9 (I 24) ?_ (y:=fun X hX=>by go_simp;all_goals(first |(exact bS (by have:=HXX.out;omega) (by have:=HXX.out;omega))|(rw[Int.tmod_eq_emod_of_nonneg ω];omega)|omega|exact aF ω ω|(rw[aF ω ω];omega)));refine tk 10 (Ψ ((x0*16777216:Nat):Int)) ?_ (y:=fun X hX=>by go_simp;all_goals(first |(exact bS (by have:=HXX.out;omega) (by have:=HXX.out;omega))|(rw[Int.tmod_eq_emod_of_nonneg ω];omega)|omega|exact aF ω ω|(rw[aF ω ω];omega)));refine wo 4 ?_;have HX:=hid hX;clear hX;unfold wpOp;go_simp;have hX:=HX.out;refine .inl ⟨hX,?_⟩;refine tk 11 (Ψ ((a0+x0*16777216:Nat):Int)) ?_ (y:=fun X hX=>by go_simp;rw[Fv S2a.out HXX.out];all_goals omega);refine tk 12 (Θ g q) ?_ (y:=fun X hX=>by have ix:=HI2.out;go_simp);refine wo 13 ?_;unfold wpOp;go_simp;replace hX:=hX.setCell (a:=⟨g,q,none⟩) (by simp) (Ψ ((a0+x0*16777216:Nat):Int));refine .inl ⟨hX,?_⟩;refine wpAnyH_done κ ?_ _;have hE:=HRS.out wr.drew (a0+x0*16777216) HR0.out;rw[<-S3a.out]at hE;have HE:=hid hE;have HB:=hid (aw hB.drew (g:=g) (i:=q) ω (Ψ ((a0+x0*16777216:Nat):Int)));clear hE hX;go_wp2;go_roundw;case rel=>exact⟨k+1,h0,by simp,HE.out,HB.out⟩
    case measure=>exact μ
  ·obtain rfl:k=n:=ω
   have d1:decide ((k:Int)<(k:Int))=false:=dF;have d2:decide (k<k)=false:=dF;rw[HZA.out]at hrow;have HR:=hid hrow;clear hrow;go_wp2;refine bodyPost_ret (v:= .tuple #[M g m m,I (4*m-k:Nat),I 0]) (by simp[results,results198,go_sem]) rfl ⟨⟨g,rfl,ω,HR.out⟩,hB⟩
theorem tY{P:Program}(w:World){o:Oper}{a:Act}{K:Act->World->Prop}{Q:Exit->Act->World->Prop}(s x:Operand)(t tn:TypeId)(ho:o.op= .call {callee:= .builtin .copy,args:= #[s,x],argTypes:= #[t,tn]})(vs vx:Value)(hs:a.eval s=vs)(hx:a.eval x=vx)(v':Value)(w':World)(hr:(Builtin.copy_ #[t,tn] o.type #[vs,vx]).run P w= .ok v' w')(h:K (a.put o.dst v') w'):o.wp P a w K Q:=by
 unfold Oper.wp execOp;simp only[ho,resolve,invoke,builtin,Sem.run_bind,Sem.run_pure,Result.andThen_ok,List.map_toArray,List.map_cons,List.map_nil,hs,hx,hr];exact h
theorem mG(w:World)(g:Nat)(b:Array Value):Only [g] w (w.setRow g b):=
 ⟨rfl,rfl,rfl,by simp,fun k _ a=>setRow_other w g k _ (fun e=>a (by rw[e];simp))⟩
section
variable {w:World} {F:Foot} {h:Hp}
theorem HeapAt.copied{g c m:Nat}{bs:List Nat}(H:HeapAt w F (bU h 2 g c (List.replicate m 0)))(j:bs.length=m)(I:Limb.Good (bU h 2 g c bs)){b:List Value}{n:Nat}(L:Row w F.gw 25 b)(V:b.length=n)(N:h.ws.length+3+m<=n)(ht:b.take (h.ws.length+3+m)=aC .u32 (bU h 2 g c (List.replicate m 0)).ws)(i:w.cell? ⟨F.p,0,none⟩=O (M F.gw (h.ws.length+3+m) n)):Step w F (w.setRow F.gw (b.take (h.ws.length+3)++aC .u32 bs++b.drop (h.ws.length+3+m)).toArray) F (bU h 2 g c bs):=by
 obtain⟨C,D,v,E,G⟩:=H.row;obtain⟨P,Q,R,S,T,U⟩:=H.apart;have f:(bU h 2 g c (List.replicate m 0)).ws.length=h.ws.length+3+m:=by rw[gW];simp
 have d:(bU h 2 g c bs).ws.length=h.ws.length+3+m:=by rw[gW,j]
 obtain⟨u,-⟩:=v.cells5;rw[i,f]at u;simp only[Option.some.injEq,Value.slice.injEq,true_and]at u;subst u;have l:=mG w F.gw (b.take (h.ws.length+3)++aC .u32 bs++b.drop (h.ws.length+3+m)).toArray;have p:=E.le;have z:(bU h 2 g c bs).st=(bU h 2 g c (List.replicate m 0)).st:=by unfold bU;simp[j]
 refine⟨⟨I,H.spares.only l (by have:=H.low;simp;omega),⟨n,D,?_,?_,?_⟩,?_,H.low⟩,Foot.Next.refl _ _,?_⟩
 ·have:=v.only l (by simp;omega);rw[f]at this;rw[d];exact this
 ·rw[d];refine⟨b.take (h.ws.length+3)++aC .u32 bs++b.drop (h.ws.length+3+m),setRow_heap w F.gw b.toArray _ _ _ L,?_,by rw[aD,d],N,p.2,?_⟩
  ·simp[aD,j];omega
  ·rw[List.take_append_of_le_length (by simp[aD,j];omega),List.take_of_length_le (by simp[aD,j];omega)]
   have B:b.take (h.ws.length+3)=(aC .u32 (bU h 2 g c (List.replicate m 0)).ws).take (h.ws.length+3):=by
    rw[<-ht,List.take_take,Nat.min_eq_left ω]
   rw[B,qo,<-bw];congr 1;unfold bU;simp only[List.length_replicate,j];rw[List.take_append,List.take_of_length_le ω,(ω:h.ws.length+3-h.ws.length=3)];simp
 ·rw[d];have:=G.only l (by simp;omega);rw[f]at this;rw[z];exact this
 ·exact H.roots.only l (by simp;omega)
 ·exact l.mono (fun q x=>by rw[List.mem_singleton]at x;subst x;exact sR F)
theorem wH{c:Nat}{t:List Nat}{o:Nat}{b:Hp}(e:fK h c t=some (o,b)):cU h c=true/\de h ((t.length+3)/4)=true/\o=kR h/\b=bU h 2 (4*((t.length+3)/4)-t.length) c (aU t):=by
 unfold fK at e;split at e
 ·rename_i a;rw[Bool.and_eq_true]at a;rw[Option.some.injEq,Prod.mk.injEq]at e;exact⟨a.1,a.2,e.1.symm,e.2.symm⟩
 ·cases e
theorem qj(H:HeapAt w F h)(c:Nat)(a:Option Addr)(t:List Nat)(n cap o:Nat)(h':Hp)(Q:Lay .u8 w a t)(ht:B8 t)(hn:n=t.length)(h0:0<n)(hl:n<=262140)(hp:fK h c t=some (o,h')):Calls prog 118 #[E F.p,Ψ c,.slice a n cap] w fun e w'=>e=Rt #[Ψ o,I 0]/\Moved w F w' h':=by
 obtain⟨hc,G,ho,hh⟩:=wH hp;have hcl:=eB H.good hc;have v:=hid (jQ w a t n cap Q ht hn hl);obtain⟨m,L⟩:=ξ ((n+3)/4);obtain⟨u,z⟩: ∃s,s=4*m-n:=⟨_,rfl⟩;have R:=v.out;rw[<-L,<-z]at R;have v:=hid R;rw[<-hn,<-L]at G hh;rw[<-z]at hh;have j:(aU t).length=m:=by rw[ct,<-hn,L]
 have hG:Limb.Good (bU h 2 u c (aU t)):=by
  have:=jl H.good ht ω hc (by rw[<-hn,<-L];exact G);rw[<-hn,<-L,<-z]at this;exact this
 have hG0:Limb.Good (bU h 2 u c (List.replicate m 0)):=by
  refine H.good.add (by rw[List.length_replicate];exact G) ⟨?_,?_,?_,?_,?_⟩ hcl (Lim.replicate _ δ) ?_
  ·show(List.replicate m 0).length<=65535;simp;omega
  ·show 1<=2;decide
  ·show 2<=4;decide
  ·show u<=3;omega
  ·show u=0∨(2=2/\0<(List.replicate m 0).length);simp;omega
  ·intro _ h3;rw[cF];exact Nat.two_pow_pos _
 have hA:=fun X (HX:HeapAt X F h)=>heap_alloc HX ⟨m,2,u,c,0⟩ hc hcl ⟨show m<=65535 by omega,(δ:1<=2),(δ:2<=4),(ω:u<=3),.inr ⟨rfl,show 0<m by omega⟩⟩ G 0 rfl hG0
 have ex:hdV ⟨m,2,u,c,0⟩= .agg #[I m,I (2:Nat),I u,Ψ c,Ψ (0:Nat)]:=rfl;have hA2: ∀X,HeapAt X F h->Calls prog 45 #[E F.p,.agg #[I m,I 2,I u,Ψ c,Ψ 0]] X fun e w'=> ∃f,e=Rt #[Ψ o,I 0]/\Step X F w' f (bU h 2 u c (List.replicate m 0)):=fun X HX=>(hA X HX).mono fun e w' ⟨f,a,b⟩=>⟨f,by rw[ho];exact a,b⟩
 have HA:=hid hA2;have HE:=hid (fun X (hb:Below w w X)=>H.below hb);have hFl:=H.lt;have hsm:=H.small;have hpos:=H.good.pos
 have x:o<4294967296/\bI o=2/\o/2=h.ws.length:=by
  have e:o=2*h.ws.length:=ho;exact⟨ω,kind_two.2 ⟨ω,ω⟩,ω⟩
 have T:=fun X p=>kY o x.1 X p
 have e5:mY o=h.ws.length:=by unfold mY;rw[if_pos x.2.1,x.2.2]
 rw[e5]at T;have HAt:=hid T;have Hh:=hid hh;have hmn:0<m:=ω
 have hfit:h.ws.length+3+m<=h.size:=by
  unfold de at G;rw[Bool.and_eq_true,decide_eq_true_eq]at G;exact G.1
 have HBL:=hid j;clear R hA hA2 ex hp hc G ho hh x T e5 Q z L hG0 H hn ht j;go_enter func118,ntmps118;go_wp2_with fail;refine(v.out).mono ?_;rintro e W1 ⟨⟨g,rfl,hg,hrow⟩,hB⟩;clear v;have H1:=HE.out W1 hB;go_wp2_with fail;refine(HA.out W1 H1).mono ?_;rintro e V ⟨f,rfl,hS⟩;have hgl:=hrow.lt;have k:Row V g 25 (aC .u32 (aU t)):=hS.beside hrow (fun L=>by have:=hFl _ L;omega)
 have hne:g≠f.gw:=by
  rcases hS.2.1.gw with e|e
  ·have:=hFl _ (sR F);omega
  ·omega
 have HV:=hS.1;have j:=HBL.out;have HS:=hid hS;obtain⟨cw,cs,c0,-,-,-,-,sw,-⟩:=HV.cells;have B:(bU h 2 u c (List.replicate m 0)).ws.length=h.ws.length+3+m:=by rw[gW];simp
 rw[B]at c0 sw;obtain⟨Z,q1,q2,q3,q4,q5,q6⟩:=sw;have hFp:f.p=F.p:=hS.2.1.p;have hap:f.p≠f.gw:=HV.apart.1;have C:f.p<V.heap.size:=HV.lt _ (mM f);rw[hFp]at c0 hap C;have HK:=hid (fun X (hX:Only [f.gw] V X)=>show X.cell? ⟨F.p,0,none⟩=O (M f.gw (h.ws.length+3+m) cw)from by rw[<-c0];exact World.cell?_of_block (hX.block _ C (by simp;exact hap)));have U:=run_copy_row (P:=prog) V.drew 22 22 3 25 f.gw (h.ws.length+3) m (cw-(h.ws.length+3)) ⟨g,0,none⟩ m m Z.toArray 25 (aC .u32 (aU t)) underlying22 κ q1 (by rw[aD,j];simp) (gk (w:=V.drew) k) (by simp[aD,j];omega) (by simp[aC,Value.oneCell']);have D:(aC IntKind.u32 (aU t)).length=m:=by rw[aD,j]
 rw[D]at U;have HCP:=hid U;have Y:=(HV.drew).copied j hG (w:=V.drew) q1 q2 q4 q6 (by rw[hFp];exact c0);rw[List.append_assoc]at Y;have HST:=hid (show Moved w F _ h' from⟨f,by rw[Hh.out];exact Step.of_below hB ((HS.out).trans (Step.of_below (w':=V.drew) (Below.refl _ _).drew Y))⟩);have hXc:Only [f.gw] V (V.drew.setRow f.gw (Z.toArray.toList.take (h.ws.length+3)++aC .u32 (aU t)++Z.toArray.toList.drop (h.ws.length+3+m)).toArray):=((Only.refl _ V).drew).trans (mG _ _ _) (fun q hq=> .inl hq);clear U Y k HS q1 q2 q5 q6 hS H1 hrow HA HE j D B;go_wp2_with fail;have hX:Only [f.gw] V V.drew:=(Only.refl _ _).drew;refine wp_region_held (S:=fun X=>Only [f.gw] V X) κ ?_;refine tk 0 (E F.p) ?_;refine tk 1 (E F.p) ?_;refine tk 2 (E F.p) ?_;refine tk 3 (M f.gw (h.ws.length+3+m) cw) ?_ (y:=fun X hX=>by have c0:=HK.out X hX;go_simp);refine tk 4 (E F.p) ?_;refine tk 5 (Ψ o) ?_;refine tk 9 (M g m m) ?_;refine wo 6 ?_;unfold wpOp;go_simp;refine .inl ((HAt.out _ _).mono ?_);rintro e X1 ⟨rfl,rfl⟩;refine⟨hX,?_⟩;refine tk 7 (I ((h.ws.length+3:Nat):Int)) ?_ (y:=fun X hX=>by go_simp;all_goals(first |omega|exact aF ω ω|(rw[aF ω ω];omega)));refine tk 8 (.slice (some ⟨f.gw,h.ws.length+3,none⟩) m (cw-(h.ws.length+3))) ?_ (y:=fun X hX=>by go_simp;rw[if_pos ⟨ω,ω⟩,(ω:((h.ws.length:Int)+3).toNat=h.ws.length+3),if_neg ω,Nat.add_sub_cancel_left]);refine wo 10 ?_;refine cZ rfl rfl ?_;refine tY _ (.tmp 42) (.tmp 43) 22 22 rfl _ _ rfl rfl _ _ HCP.out ?_;replace hX:=hXc;refine⟨hX,?_⟩;simp only[Act.put,zA,zB,zC];refine wpAnyH_done κ ?_ _;have HF:=HST;clear HK HCP hXc hX HST;go_wp2;go_ret2;exact⟨rfl,HF.out⟩
end
section
variable {w:World} {F:Foot} {h:Hp}
theorem uL(H:HeapAt w F h)(o:Nat)(ho:o<4294967296):Calls prog 274 #[E F.p,Ψ o] w fun e w'=>e=Rt #[I (hdX h o).len,I (erX h o)]/\Below w w w':=by
 have HD:=hid (di H o ho)
 have hok:(hdX h o).Ok∨hdX h o=hdZ:=by
  unfold hdX;by_cases hi:isO h o=true
  ·rw[if_pos hi];exact .inl (H.good.ok _ (isO_iff.1 hi).2.2).1
  ·rw[if_neg hi];exact .inr rfl
 have HLn:=hid (mF (hdX h o) hok);generalize hdX h o=x at*
 generalize erX h o=er at*
 have ex:hdV x= .agg #[I x.size,I x.fmt,I x.spare,Ψ x.cls,Ψ x.ser]:=rfl;have hd:=HD.out;have hl:=HLn.out;rw[ex]at hd hl;have HD:=hid hd;have HLn:=hid hl;generalize x.len=ln at*
 clear hd hl ex hok H;go_enter func274,ntmps274;go_wp2_with fail;refine(HD.out).mono ?_;rintro e V ⟨rfl,hB⟩;(try dsimp only);obtain⟨W,hW,r0,hb,hz⟩:=aA V 94 [I x.size,I x.fmt,I x.spare,Ψ x.cls,Ψ x.ser];have HW:=hid hW;clear hW hz;replace hB:=τ hB hb;clear hb r0;go_wp2_with fail;rw[<-HW.out];refine(HLn.out W).mono ?_;rintro e W2 ⟨rfl,hb⟩;(try dsimp only);replace hB:=τ hB hb;clear hb;go_wp2_with fail;go_ret2;exact⟨rfl,hB⟩
end
theorem j4{l:List Nat}{k:Nat}(a:k<l.length):cT (l.take (k+1))=cT (l.take k)++by4 (wd l k):=by
 rw[iz a,mA];show _++(by4 _++[])=_;rw[List.append_nil]
theorem Sl.lay{K:IntKind}{w:World}{g n c:Nat}{e:TypeId}{l:List Nat}(h:Sl w g e n c (aC K l))(d:n=n):Lay K w (some ⟨g,0,none⟩) l:=
 ⟨g,0,fun _=>⟨rfl,h.lt⟩,fun i b=>by
  have a:=h.len;rw[aD]at a;rw[Nat.zero_add,h.cell ω,aJ b]⟩
theorem zT{P:Program}(t e:TypeId)(ht:P.underlying t=some (.slice e))(hs: ∀W,(sizeOf e).run P W= .ok 1 W)(g a n c:Nat)(W:World)(k:IntKind)(i:Nat)(d:i<n):(Instr.indexAt t (.slice (some ⟨g,a,none⟩) n c) (.int k i)).run P W= .ok (Θ g (a+i)) W:=by
 have h1:(0:Int)<=(i:Int):=ω
 have b:(i:Int)<(n:Int):=ω
 simp[Instr.indexAt,run_underlying ht,asIntOf,h1,b,hs,Result.andThen,Addr.add];rw[if_pos d];by_cases h0:i=0
 ·subst h0;rfl
 ·rw[if_neg h0]
theorem mn(w:World)(a:Option Addr)(l:List Nat)(m cap s N:Nat)(hN:4*m=N+s)(hlay:Lay .u32 w a l)(hlim:Lim l)(hn:m=l.length)(hl:m<=65535)(hs:s<=3)(hs0:s=0)(hz:(cT l).drop N=List.replicate s 0):Calls prog 278 #[.slice a m cap,I s] w fun e w'=>(∃g,e=Rt #[M g N N,I 0]/\w.heap.size<=g/\Lay .u8 w' (some ⟨g,0,none⟩) ((cT l).take N))/\Below w w w':=by
 obtain⟨b1,off1,hix,hcx,_⟩:=hlay.use 22 25 underlying22 aK cap;rw[<-hn]at hix hcx;have HIX:=hid hix;have HCX:=hid hcx;have HT:=hid (fun k (hk:k<m)=>j4 (l:=l) (k:=k) ω);have HL:=hid (show∀k,k<=m->(cT (l.take k)).length=4*k from fun k hk=>by rw[dk,List.length_take];omega);have HA:=hid (show cT (l.take m)=cT l by rw[hn,List.take_length]);have HW:=hid (fun k=>hlim.wd k);have HZ:=hid hz;have d1:decide ((65535:Int)<(m:Int))=false:=dF;have d1':decide (65535<m)=false:=dF;have d2:decide ((s:Int)<0)=false:=dF;have d3:decide ((3:Int)<(s:Int))=false:=dF;have d3':decide (3<s)=false:=dF;have d4:decide ((0:Int)<(s:Int))=false:=dF;have d4':decide (0<s)=false:=dF;have HS0:=hid hs0;clear hs0;have HN:=hid hN;have hNb:N<=262140:=ω
 clear hix hcx hlay hlim hn hz hN;obtain⟨i0,hi,hz0,hz1,hz2⟩:=info_parts iT;go_enter func278,ntmps278;go_wp2_with(at_make;refine aI rfl _ _ _ rfl 5 (.int .u8 0) 1 underlying50 iT rfl _ _ _ _ 0 (4*m) rfl rfl rfl ω ω ω ω ?_;intro w1 g hg1 hg2 hrow hbel);go_loopw[36,6] (fun i v wr=> ∃k gw c:Nat,k<=m/\i= .int .i64 k/\v= .slice (some ⟨gw,0,none⟩) (4*k) c/\Sl wr gw 5 (4*k) c (aC .u8 (cT (l.take k)))/\w.heap.size<=gw/\Below w w wr) (fun i _ _=>m-(intOf i).toNat);case atStart=>exact⟨0,g,4*m,Nat.zero_le _,rfl,rfl,⟨_,hrow,by simp,rfl,Nat.zero_le _,Nat.le_trans (show 4*m<=262140 by omega) δ,by simp[cT,aC]⟩,hg1,hbel⟩
 case round=>
  clear hrow hbel;obtain⟨k,gw,c,hk,rfl,rfl,sl,hgw,hB⟩:=hrel;by_cases h0:k<m
  ·have e1:decide ((k:Int)<(m:Int))=true:=dT;have e1':decide (k<m)=true:=decide_eq_true h0;have ix:=HIX.out wr .i64 k ω ω;rw[Int.toNat_natCast]at ix;have cx:=HCX.out wr hB k h0;have hwk:=HW.out k;have ht:=HT.out k h0;generalize wd l k=x at*
   have e4:aC .u8 (by4 x)=[.int .u8 ((x:Int)%256),.int .u8 ((x:Int)/256%256),.int .u8 ((x:Int)/65536%256),.int .u8 ((x:Int)/16777216%256)]:=rfl;obtain⟨X8,hX8,r8,hb8,hz8⟩:=aA wr 5 [.int .u8 ((x:Int)%256),.int .u8 ((x:Int)/256%256),.int .u8 ((x:Int)/65536%256),.int .u8 ((x:Int)/16777216%256)];obtain⟨v9,X9,hr9,hg9⟩:=bW (P:=prog) (t:=50) (ty:=50) underlying50 hi hz0 hz1 hz2 rfl (sl.below hb8) ⟨wr.heap.size,0,none⟩ 4 4 ω (aC .u8 (by4 x)) rfl (gk (by rw[e4];exact r8)) (by rw[e4];simp[Value.oneCell']) (Nat.le_trans (show 4*k+4<=262144 by omega) δ) ω;have ho9:=hg9.only;rw[<-bw,<-ht]at hg9;obtain⟨gw9,c9,rfl,sl9,hgg,-⟩:=hg9;have hB9:Below w w X9:=(τ hB hb8).trans (ho9.ah (by have:=hB.size;omega) (fun p hp=>by rw[List.mem_singleton]at hp;subst hp;exact hgw));rw[hX8]at hr9;have HR9:=hid hr9;have HS9:=hid sl9
   have hgw9:w.heap.size<=gw9:=by
    rcases hgg with e|e
    ·rw[e];exact hgw
    ·have:=hB.size;omega
   clear hr9 sl9 hX8 r8 hb8 hgg ho9 ht e4 hwk sl;go_wp2_with(at_builtin;refine Lib.wpList_append_run _ rfl _ _ _ _ rfl _ _ rfl rfl _ _ HR9.out ?_);go_roundw;case rel=>exact⟨k+1,gw9,c9,h0,by simp,by simp[Nat.mul_add],HS9.out,hgw9,hB9⟩
   case measure=>exact μ
  ·obtain rfl:k=m:=ω
   rw[HA.out]at sl;have hlu:=HL.out k ι;rw[HA.out]at hlu;have hN:=HN.out;have hs00:=HS0.out;have HLay:=hid (show Lay .u8 wr (some ⟨gw,0,none⟩) ((cT l).take N)from(sl.lay rfl).take N);have e1:decide ((k:Int)<(k:Int))=false:=dF;have e1':decide (k<k)=false:=dF;have hle:=sl.le;have hcN:c=N∨¬c=N:=ω
   rw[hN]at hle ⊢;clear sl hlu hN HN HZ HT HL HA HW HIX HCX hs00;rcases hcN with hcN|hcN
   ·go_wp2;go_loopw[63] (fun i wx=> ∃j:Nat,j<=s/\i= .int .i64 j/\wr=wx) (fun i _=>s-(intOf i).toNat);case atStart=>exact⟨0,Nat.zero_le _,rfl,by trivial⟩
    case round=>
     obtain⟨j,hj,rfl,rfl⟩:=hrel;have hs00:=HS0.out;obtain rfl:j=s:=ω
     have f1:decide ((j:Int)<(j:Int))=false:=dF;have f1':decide (j<j)=false:=dF;clear hs00;go_wp2;go_ret2;exact⟨⟨gw,rfl,hgw,HLay.out⟩,hB⟩
   ·go_wp2;go_loopw[63] (fun i wx=> ∃j:Nat,j<=s/\i= .int .i64 j/\wr=wx) (fun i _=>s-(intOf i).toNat);case atStart=>exact⟨0,Nat.zero_le _,rfl,by trivial⟩
    case round=>
     obtain⟨j,hj,rfl,rfl⟩:=hrel;have hs00:=HS0.out;obtain rfl:j=s:=ω
     have f1:decide ((j:Int)<(j:Int))=false:=dF;have f1':decide (j<j)=false:=dF;clear hs00;go_wp2;go_ret2;exact⟨⟨gw,rfl,hgw,HLay.out⟩,hB⟩
theorem lX(w:World)(a:Option Addr)(l:List Nat)(m cap s N:Nat)(hN:4*m=N+s)(hlay:Lay .u32 w a l)(hlim:Lim l)(hn:m=l.length)(hl:m<=65535)(hs:s<=3)(hs0:0<s)(hm0:0<m)(hz:(cT l).drop N=List.replicate s 0):Calls prog 278 #[.slice a m cap,I s] w fun e w'=>(∃g,e=Rt #[M g N N,I 0]/\w.heap.size<=g/\Lay .u8 w' (some ⟨g,0,none⟩) ((cT l).take N))/\Below w w w':=by
 obtain⟨b1,off1,hix,hcx,_⟩:=hlay.use 22 25 underlying22 aK cap;rw[<-hn]at hix hcx;have HIX:=hid hix;have HCX:=hid hcx;have HT:=hid (fun k (hk:k<m)=>j4 (l:=l) (k:=k) ω);have HL:=hid (show∀k,k<=m->(cT (l.take k)).length=4*k from fun k hk=>by rw[dk,List.length_take];omega);have HA:=hid (show cT (l.take m)=cT l by rw[hn,List.take_length]);have HW:=hid (fun k=>hlim.wd k);have HZ:=hid hz;have d1:decide ((65535:Int)<(m:Int))=false:=dF;have d1':decide (65535<m)=false:=dF;have d2:decide ((s:Int)<0)=false:=dF;have d3:decide ((3:Int)<(s:Int))=false:=dF;have d3':decide (3<s)=false:=dF;have d4:decide ((0:Int)<(s:Int))=true:=dT;have d4':decide (0<s)=true:=decide_eq_true hs0;have d5:((m:Int)==0)=false:=nE
 have d5':(m==0)=false:=nE
 have HN:=hid hN;have hNb:N<=262140:=ω
 clear hix hcx hlay hlim hn hz hN;obtain⟨i0,hi,hz0,hz1,hz2⟩:=info_parts iT;go_enter func278,ntmps278;go_wp2_with(at_make;refine aI rfl _ _ _ rfl 5 (.int .u8 0) 1 underlying50 iT rfl _ _ _ _ 0 (4*m) rfl rfl rfl ω ω ω ω ?_;intro w1 g hg1 hg2 hrow hbel);go_loopw[36,6] (fun i v wr=> ∃k gw c:Nat,k<=m/\i= .int .i64 k/\v= .slice (some ⟨gw,0,none⟩) (4*k) c/\Sl wr gw 5 (4*k) c (aC .u8 (cT (l.take k)))/\w.heap.size<=gw/\Below w w wr) (fun i _ _=>m-(intOf i).toNat);case atStart=>exact⟨0,g,4*m,Nat.zero_le _,rfl,rfl,⟨_,hrow,by simp,rfl,Nat.zero_le _,Nat.le_trans (show 4*m<=262140 by omega) δ,by simp[cT,aC]⟩,hg1,hbel⟩
 case round=>
  clear hrow hbel;obtain⟨k,gw,c,hk,rfl,rfl,sl,hgw,hB⟩:=hrel;by_cases h0:k<m
  ·have e1:decide ((k:Int)<(m:Int))=true:=dT;have e1':decide (k<m)=true:=decide_eq_true h0;have ix:=HIX.out wr .i64 k ω ω;rw[Int.toNat_natCast]at ix;have cx:=HCX.out wr hB k h0;have hwk:=HW.out k;have ht:=HT.out k h0;generalize wd l k=x at*
   have e4:aC .u8 (by4 x)=[.int .u8 ((x:Int)%256),.int .u8 ((x:Int)/256%256),.int .u8 ((x:Int)/65536%256),.int .u8 ((x:Int)/16777216%256)]:=rfl;obtain⟨X8,hX8,r8,hb8,hz8⟩:=aA wr 5 [.int .u8 ((x:Int)%256),.int .u8 ((x:Int)/256%256),.int .u8 ((x:Int)/65536%256),.int .u8 ((x:Int)/16777216%256)];obtain⟨v9,X9,hr9,hg9⟩:=bW (P:=prog) (t:=50) (ty:=50) underlying50 hi hz0 hz1 hz2 rfl (sl.below hb8) ⟨wr.heap.size,0,none⟩ 4 4 ω (aC .u8 (by4 x)) rfl (gk (by rw[e4];exact r8)) (by rw[e4];simp[Value.oneCell']) (Nat.le_trans (show 4*k+4<=262144 by omega) δ) ω;have ho9:=hg9.only;rw[<-bw,<-ht]at hg9;obtain⟨gw9,c9,rfl,sl9,hgg,-⟩:=hg9;have hB9:Below w w X9:=(τ hB hb8).trans (ho9.ah (by have:=hB.size;omega) (fun p hp=>by rw[List.mem_singleton]at hp;subst hp;exact hgw));rw[hX8]at hr9;have HR9:=hid hr9;have HS9:=hid sl9
   have hgw9:w.heap.size<=gw9:=by
    rcases hgg with e|e
    ·rw[e];exact hgw
    ·have:=hB.size;omega
   clear hr9 sl9 hX8 r8 hb8 hgg ho9 ht e4 hwk sl;go_wp2_with(at_builtin;refine Lib.wpList_append_run _ rfl _ _ _ _ rfl _ _ rfl rfl _ _ HR9.out ?_);go_roundw;case rel=>exact⟨k+1,gw9,c9,h0,by simp,by simp[Nat.mul_add],HS9.out,hgw9,hB9⟩
   case measure=>exact μ
  ·obtain rfl:k=m:=ω
   rw[HA.out]at sl;have hlu:=HL.out k ι;rw[HA.out]at hlu;have hN:=HN.out;have HLay:=hid (show Lay .u8 wr (some ⟨gw,0,none⟩) ((cT l).take N)from(sl.lay rfl).take N);have e1:decide ((k:Int)<(k:Int))=false:=dF;have e1':decide (k<k)=false:=dF;have hle:=sl.le;have hcells:=fun j (hj:j<s)=>sl.cell (i:=N+j) ω
   have hzero:=fun j (hj:j<s)=>show(aC .u8 (cT l))[N+j]? =some (.int .u8 0)from by
    rw[aJ ω,<-wd_drop,HZ.out,cF];rfl
   have HC:=hid (fun j (hj:j<s)=>(hcells j hj).trans (hzero j hj));have hcN: ¬c=N:=ω
   rw[hN]at hle ⊢;clear sl hlu hN HN HZ HT HL HA HW HIX HCX hcells hzero;go_wp2;go_loopw[63] (fun i wx=> ∃j:Nat,j<=s/\i= .int .i64 j/\wr=wx) (fun i _=>s-(intOf i).toNat);case atStart=>exact⟨0,Nat.zero_le _,rfl,by trivial⟩
   case round=>
    obtain⟨j,hj,rfl,rfl⟩:=hrel;by_cases j0:j<s
    ·have f1:decide ((j:Int)<(s:Int))=true:=dT;have f1':decide (j<s)=true:=decide_eq_true j0;have cj:=HC.out j j0;have ix:=fun W=>zT (P:=prog) 50 5 underlying50 fJ gw N s (c-N) W .i64 j j0
     go_wp2;go_roundw;case rel=>exact⟨j+1,j0,by simp,by trivial⟩
     case measure=>exact μ
    ·obtain rfl:j=s:=ω
     have f1:decide ((j:Int)<(j:Int))=false:=dF;have f1':decide (j<j)=false:=dF;go_wp2;go_ret2;exact⟨⟨gw,rfl,hgw,HLay.out⟩,hB⟩
def iY(h:Hp)(o:Nat):Nat:=if isO h o=true then(if(hdO h o).fmt=2 then 0 else 21)else 3
theorem na(w:World)(a:Option Addr)(l:List Nat)(m cap s N:Nat)(n:4*m=N+s)(b:Lay .u32 w a l)(f:Lim l)(q:m=l.length)(u:m<=65535)(hs:s<=3)(j:0<s->0<m)(v:(cT l).drop N=List.replicate s 0):Calls prog 278 #[.slice a m cap,I s] w fun e w'=>(∃g,e=Rt #[M g N N,I 0]/\w.heap.size<=g/\Lay .u8 w' (some ⟨g,0,none⟩) ((cT l).take N))/\Below w w w':=by
 by_cases h:s=0
 ·exact mn w a l m cap s N n b f q u hs h v
 ·exact lX w a l m cap s N n b f q u hs ω (j ω) v
section
variable {w:World} {F:Foot} {h:Hp}
theorem mD(k:Limb.Good h){o:Nat}(x:isO h o=true)(hf:(hdO h o).fmt=2):4*(hdO h o).size=(hdO h o).len+(hdO h o).spare/\(hdO h o).spare<=3/\(0<(hdO h o).spare->0<(hdO h o).size)/\(hdO h o).size<=65535/\(cT (bj h o)).drop (hdO h o).len=List.replicate (hdO h o).spare 0:=by
 have v:=(isO_iff.1 x).2.2;have b:(hdO h o).Ok:=(k.ok _ v).1;have c:=bg k x;have g:=b.spare;have q:=b.sp;have u:=b.size;have j:(hdO h o).len=4*(hdO h o).size-(hdO h o).spare:=by unfold Hd.len;rw[if_pos hf]
 refine⟨ω,g,ω,u,?_⟩;rw[j,<-c];by_cases h0:(hdO h o).spare=0
 ·rw[h0,List.drop_of_length_le (by rw[dk];omega)];rfl
 ·obtain⟨n,y⟩: ∃n,(hdO h o).size=n+1:=⟨(hdO h o).size-1,by rcases q with h1|h1<;>omega⟩;refine oP g (c.trans y) ?_;rw[fk ω];have:=k.spz _ v hf (show 0<(hd h (o/2)).spare from Nat.pos_of_ne_zero h0);rw[show o/2+2+(hd h (o/2)).size=o/2+3+n by show o/2+2+(hdO h o).size=_;omega]at this;exact this
theorem HeapAt.fields(H:HeapAt w F h){o:Nat}(c:isO h o=true)(j:Option Addr)(d:0<(hdO h o).size->j=some ⟨F.gw,o/2+3,none⟩):Lay .u32 w j (bj h o):=by
 obtain⟨k,l,m,c1,n,p,q,f,hs⟩:=H.cells;refine⟨F.gw,o/2+3,fun g=>?_,fun i b=>?_⟩
 ·rw[bg H.good c]at g;exact⟨d g,f.lt⟩
 ·rw[bg H.good c]at b;have a:=o4 H.good c b;rw[f.cell a,aJ a,fk b];rfl
theorem wj(H:HeapAt w F h)(o:Nat)(ho:o<4294967296):Calls prog 275 #[E F.p,Ψ o] w fun e w'=>(∃a c,e=Rt #[.slice a (if iY h o=0 then(hdO h o).len else 0) c,I (iY h o)]/\(iY h o=0->(∃g,a=some ⟨g,0,none⟩)/\Lay .u8 w' a (fF h o)))/\Below w w w':=by
 have D:=hid (di H o ho);by_cases u:isO h o=true
 ·have U:hdX h o=hdO h o:=(by unfold hdX;rw[if_pos u]);have Y:erX h o=0:=by unfold erX;rw[if_pos u]
  have B:=D.out;rw[U,Y,(φ:hdV (hdO h o)= .agg #[I (hdO h o).size,I (hdO h o).fmt,I (hdO h o).spare,Ψ (hdO h o).cls,Ψ (hdO h o).ser])]at B;have a0:(hdO h o).Ok:=(H.good.ok _ (isO_iff.1 u).2.2).1;by_cases hf:(hdO h o).fmt=2
  ·have L:iY h o=0:=(by unfold iY;rw[if_pos u,if_pos hf]);rw[L,if_pos rfl];rw[hf]at B;obtain⟨b1,b2,b3,b4,b5⟩:=mD H.good u hf;have hin:o/2+3+(hdO h o).size<=h.ws.length:=H.good.inside _ (isO_iff.1 u).2.2;have hsm:=H.small;have ha:=fun X=>kY o ho X (E F.p)
   rw[nv u]at ha;have HA:=hid ha;have a1:fF h o=(cT (bj h o)).take (hdO h o).len:=rfl;rw[a1];have a2:=hid (fun X (HX:HeapAt X F h) T (v:0<(hdO h o).size->T=some ⟨F.gw,o/2+3,none⟩) cap=>na X T (bj h o) (hdO h o).size cap (hdO h o).spare (hdO h o).len b1 (HX.fields u T v) (fB H.good o) (bg H.good u).symm b4 b2 b3 b5);have HE:=hid (fun X (R:Below w w X)=>H.below R);generalize bj h o=fl at*
   generalize o/2=j at*
   generalize hdO h o=x at*
   generalize x.len=ln at*
   generalize x.size=A at*
   generalize x.spare=x2 at*
   generalize x.cls=x3 at*
   generalize x.ser=x4 at*
   have D:=hid B;clear B U Y a0 hf L ha a1 b1 b5 u;go_enter func275,ntmps275;go_wp2_with fail;refine(D.out).mono ?_;rintro e V ⟨rfl,C⟩;(try dsimp only);obtain⟨W,hW,Z,R,hz⟩:=aA V 94 [I A,I 2,I x2,Ψ x3,Ψ x4];have HW:=hid hW;clear hW hz;replace C:=τ C R;clear R;obtain⟨p0,p1,p2,p3,p4⟩:=Z.cells5;go_wp2_with fail;rw[<-HW.out];refine(HA.out W).mono ?_;rintro e W1 ⟨rfl,rfl⟩;(try dsimp only);go_wp2_with fail;have G:=HE.out W C;obtain⟨cw,cs,c0,-,-,-,-,sw,-⟩:=G.cells;have hcw:=sw.le;clear p0 p1 p2 p3 p4 sw;obtain⟨T,v⟩: ∃b,b=if cw=j+3 then some (⟨F.gw,0,none⟩:Addr)else some ⟨F.gw,j+3,none⟩:=⟨_,rfl⟩
   have P:0<A->T=some ⟨F.gw,j+3,none⟩:=fun h0=>by rw[v,if_neg ω]
   have a3:=hid v;have Q:=hid P;have hFp:F.p<W.heap.size:=G.lt _ (mM F);have HK:=hid (fun X (hX:Below W W X)=>show X.cell? ⟨F.p,0,none⟩=O (M F.gw h.ws.length cw)/\X.cell? ⟨V,0,none⟩=O (I A)/\X.cell? ⟨V,2,none⟩=O (I x2)from⟨by rw[<-c0];exact hX.cell hFp,(Z.below hX Z.lt).ae 0,(Z.below hX Z.lt).ae 2⟩);have a4:=hid (fun X (hX:Below W W X)=>G.below hX);clear v P G c0 Z HA D HE HW;have hX:Below W W W.drew:=(Below.refl _ _).drew;refine wp_region_held (S:=fun X=>Below W W X) κ ?_;refine tk 0 (E F.p) ?_;refine tk 1 (E F.p) ?_;refine tk 2 (E F.p) ?_;refine tk 3 (M F.gw h.ws.length cw) ?_ (y:=fun X hX=>by obtain⟨k0,k1,k2⟩:=HK.out X hX;go_simp);refine tk 4 (I ((j:Int)+3)) ?_;refine tk 5 (I ((j:Int)+3)) ?_;refine tk 6 (E V) ?_;refine tk 7 (I A) ?_ (y:=fun X hX=>by obtain⟨k0,k1,k2⟩:=HK.out X hX;go_simp);refine tk 8 (I ((j:Int)+3+(A:Int))) ?_ (y:=fun X hX=>by go_simp;all_goals(first |omega|exact aF ω ω|(rw[aF ω ω];omega)));refine tk 9 (.slice T A (cw-(j+3))) ?_ (y:=fun X hX=>by go_simp;rw[if_pos (show 0<=(j:Int)+3/\(j:Int)+3<=max ((j:Int)+3+(A:Int)) 0 from⟨ω,ω⟩),a3.out,(ω:((j:Int)+3).toNat=j+3),(ω:((j:Int)+3+(A:Int)).toNat=j+3+A),Nat.add_sub_cancel_left,if_pos (show 0<=(j:Int)+3+(A:Int)/\(j:Int)+3+(A:Int)<=(cw:Int)from⟨ω,ω⟩)]);refine tk 10 (Θ V 2) ?_;refine tk 11 (I x2) ?_ (y:=fun X hX=>by obtain⟨k0,k1,k2⟩:=HK.out X hX;go_simp);refine wo 12 ?_;unfold wpOp;go_simp;refine .inl ((a2.out _ (a4.out _ hX) T Q.out _).mono ?_);rintro e X1 ⟨⟨g,rfl,hg,hlay⟩,R⟩;replace hX:=τ hX R;have a5:=hid hlay;clear R hg hlay;refine⟨hX,?_⟩;refine tk 13 (M g ln ln) ?_;refine tk 14 (I 0) ?_;refine tk 15 (M g ln ln) ?_;refine tk 16 (I 0) ?_;refine wpAnyH_done κ ?_ _;have HBf:=hid (τ C hX);clear HK a4 a2 a3 Q hX;go_wp2_with fail;go_ret2;exact⟨⟨_,_,rfl,fun _=>⟨⟨_,rfl⟩,a5.out⟩⟩,HBf.out⟩
  ·have L:iY h o=21:=(by unfold iY;rw[if_pos u,if_neg hf]);rw[L,if_neg δ];have q:(((hdO h o).fmt:Int) != 2)=true:=by rw[bne_iff_ne];omega
   have q2:(((hdO h o).fmt:Int)==2)=false:=nE;have q3:((hdO h o).fmt==2)=false:=by rw[beq_eq_false_iff_ne];exact hf
   generalize hdO h o=x at*
   generalize x.fmt=x1 at*
   have D:=hid B;clear B U Y a0 L u H;go_enter func275,ntmps275;go_wp2_with fail;refine(D.out).mono ?_;rintro e V ⟨rfl,C⟩;(try dsimp only);have hE:=C.alloc C.size (.cells #[I x.size,I x1,I x.spare,Ψ x.cls,Ψ x.ser] 94);go_wp2_with fail;go_ret2;exact⟨⟨_,_,rfl,fun h=>absurd h δ⟩,hE⟩
 ·have Y:erX h o=3:=(by unfold erX;rw[if_neg u]);have U:hdX h o=hdZ:=by unfold hdX;rw[if_neg u]
  have L:iY h o=3:=(by unfold iY;rw[if_neg u]);rw[L,if_neg δ];have B:=D.out;rw[U,Y,(φ:hdV hdZ= .agg #[I 0,I 0,I 0,Ψ 0,Ψ 0])]at B;have D:=hid B;clear B U Y L u H;go_enter func275,ntmps275;go_wp2_with fail;refine(D.out).mono ?_;rintro e V ⟨rfl,C⟩;(try dsimp only);have hE:=C.alloc C.size (.cells #[I 0,I 0,I 0,Ψ 0,Ψ 0] 94);go_wp2_with fail;go_ret2;exact⟨⟨_,_,rfl,fun h=>absurd h δ⟩,hE⟩
end
theorem jU{P:Program}(t e:TypeId)(a:Addr)(n c:Nat)(h:P.underlying t=some (.slice e))(w:World):(binOp .eql t (.slice (some a) n c) (.slice none 0 0)).run P w= .ok (.bool false) w:=by
 have:(Op.equalIn 10000 t (.slice (some a) n c) (.slice none 0 0)).run P w= .ok false w:=by
  rw[(φ:(10000:Nat)=9999+1)];unfold Op.equalIn;simp[Sem.run_bind,run_underlying h,Result.andThen]
 simp[binOp,Op.equal,Op.maxDepth,this,Result.andThen]
theorem xI{K:IntKind}{w:World}{g n c:Nat}{e:TypeId}{l:List Nat}(h:Sl w g e n c (aC K l)): ∀j u,(aC K l)[j]? =some u->w.cell? ((⟨g,0,none⟩:Addr).add j)=some u:=by
 intro j u b
 have f:(⟨g,0,none⟩:Addr).add j=⟨g,j,none⟩:=by
  unfold Addr.add;by_cases h0:j=0
  ·subst h0;rfl
  ·simp[h0]
 have i:=h.len;have:=(List.getElem?_eq_some_iff.1 b).1;rw[f,h.cell ω];exact b
theorem vp(w:World)(g n c:Nat)(l:List Nat)(hs:Sl w g 25 n c (aC .u32 l))(h0:0<n)(O:n<=1048576):Calls prog 53 #[M g n c] w fun e w'=>(∃u z,e= .returned (M u n z)/\w.heap.size<=u/\Sl w' u 25 n z (aC .u32 l))/\Below w w w':=by
 obtain⟨W,v,x,m,I⟩:=aA w 25 [];have A:=hid v;obtain⟨L,C,o,q,r⟩:=info_parts bz;have b:=hs.below m;obtain⟨N,D,d,a⟩:=bW (P:=prog) (t:=22) (ty:=22) underlying22 C o q r rfl (x.sl (n:=0) rfl (Nat.zero_le _)) ⟨g,0,none⟩ n c ω (aC .u32 l) b.len (xI b) (by simp[aC,Value.oneCell']) (Nat.le_trans (show 0+n<=1048576 by omega) δ) ω;have i:=a.only;obtain⟨y,E,rfl,f,s,-⟩:=a;rw[Nat.zero_add,List.nil_append]at f;rw[Nat.zero_add]at d;have B:Below w w D:=m.trans (i.ah ω (fun p G=>by rw[List.mem_singleton]at G;omega));have j:=hid d;have k:=hid f;have a:w.heap.size<=y:=ω
 clear d f v hs b x m s i;have H:=jU (P:=prog) 22 25 ⟨g,0,none⟩ n c underlying22;go_enter func53,ntmps53;go_wp2_with(at_builtin;(try rw[<-A.out]);refine Lib.wpList_append_run _ rfl _ _ _ _ rfl _ _ rfl rfl _ _ j.out ?_);go_ret;exact⟨⟨y,E,rfl,a,k.out⟩,B⟩
theorem vC(w:World)(g n c:Nat)(l:List Nat)(hs:Sl w g 26 n c (aC .u32 l))(h0:0<n)(O:n<=1048576):Calls prog 259 #[M g n c] w fun e w'=>(∃u z,e= .returned (M u n z)/\w.heap.size<=u/\Sl w' u 26 n z (aC .u32 l))/\Below w w w':=by
 obtain⟨W,v,x,m,I⟩:=aA w 26 [];have A:=hid v;obtain⟨L,C,o,q,r⟩:=info_parts go;have b:=hs.below m;obtain⟨N,D,d,a⟩:=bW (P:=prog) (t:=44) (ty:=44) underlying44 C o q r rfl (x.sl (n:=0) rfl (Nat.zero_le _)) ⟨g,0,none⟩ n c ω (aC .u32 l) b.len (xI b) (by simp[aC,Value.oneCell']) (Nat.le_trans (show 0+n<=1048576 by omega) δ) ω;have i:=a.only;obtain⟨y,E,rfl,f,s,-⟩:=a;rw[Nat.zero_add,List.nil_append]at f;rw[Nat.zero_add]at d;have B:Below w w D:=m.trans (i.ah ω (fun p G=>by rw[List.mem_singleton]at G;omega));have j:=hid d;have k:=hid f;have a:w.heap.size<=y:=ω
 clear d f v hs b x m s i;have H:=jU (P:=prog) 44 26 ⟨g,0,none⟩ n c underlying44;go_enter func259,ntmps259;go_wp2_with(at_builtin;(try rw[<-A.out]);refine Lib.wpList_append_run _ rfl _ _ _ _ rfl _ _ rfl rfl _ _ j.out ?_);go_ret;exact⟨⟨y,E,rfl,a,k.out⟩,B⟩
section
variable {w:World} {F:Foot} {h:Hp}
theorem kj(H:HeapAt w F h):Calls prog 15 #[E F.p] w fun e w'=>(∃a b,e= .returned (M a h.ws.length b)/\w.heap.size<=a/\Sl w' a 25 h.ws.length b (aC .u32 h.ws))/\Below w w w':=by
 have d:=hid (dJ H);obtain⟨i,j,k,c1,l,p,q,c,hs⟩:=H.cells;have f:=hid (vp w F.gw h.ws.length i h.ws c H.good.pos H.small.1);clear c hs H;go_enter func15,ntmps15;go_wp2_with fail;refine(d.out).mono ?_;rintro e w1 ⟨rfl,rfl⟩;go_wp2_with fail;refine(f.out).mono ?_;rintro e r ⟨⟨a,b,rfl,hg,hS⟩,hB⟩;have g:=hid hS;clear hS;go_wp2;go_ret;exact⟨⟨a,b,rfl,hg,g.out⟩,hB⟩
theorem oT(H:HeapAt w F h):Calls prog 217 #[E F.p] w fun e w'=>(∃a b,e= .returned (M a 64 b)/\w.heap.size<=a/\Sl w' a 26 64 b (aC .u32 h.rt))/\Below w w w':=by
 have d:=hid (dJ H);obtain⟨j,k,l,c1,p,q,r,i,hs⟩:=H.cells;have c:Sl w F.gr 26 64 64 (aC .u32 h.rt):=H.roots.sl (by rw[aD];exact H.good.rlen.symm) δ;have f:=hid (vC w F.gr 64 64 h.rt c δ δ);clear i hs H c;go_enter func217,ntmps217;go_wp2_with fail;refine(d.out).mono ?_;rintro e w1 ⟨rfl,rfl⟩;go_wp2_with fail;refine(f.out).mono ?_;rintro e s ⟨⟨a,b,rfl,hg,hS⟩,hB⟩;have g:=hid hS;clear hS;go_wp2;go_ret;exact⟨⟨a,b,rfl,hg,g.out⟩,hB⟩
end
section
variable {w:World} {F:Foot} {h:Hp}
theorem bD(H:HeapAt w F h)(i:Nat)(b:i<64):Calls prog 20 #[E F.p,I i] w fun e w'=>e= .returned (Ψ (wd h.rt i:Nat))/\w=w':=by
 have a:=hid (dM H i b);clear H;go_enter func20,ntmps20;go_wp2_with fail;refine(a.out).mono ?_;rintro e w1 ⟨rfl,rfl⟩;go_wp2;go_ret;exact⟨rfl,rfl⟩
theorem Dg{o f n:Nat}:isF h o f n=(decide (erX h o=0)&&decide ((hdX h o).fmt=f)&&decide (n<=(hdX h o).size)):=by
 unfold isF erX hdX;by_cases a:isO h o=true
 ·rw[if_pos a,if_pos a,a];rfl
 ·rw[if_neg a,if_neg a];rw[Bool.not_eq_true]at a;rw[a];rfl
theorem cP(H:HeapAt w F h)(o n:Nat)(P:o<4294967296):Calls prog 143 #[E F.p,Ψ o,I n] w fun e w'=>e= .returned (.bool (isF h o 1 n))/\Below w w w':=by
 have u:=hid (di H o P);obtain⟨r,G⟩: ∃b,b=isF h o 1 n:=⟨_,rfl⟩;have j:=G;rw[Dg]at j;rw[<-G];have g:=hid j;have M:hdV (hdX h o)= .agg #[I (hdX h o).size,I (hdX h o).fmt,I (hdX h o).spare,Ψ (hdX h o).cls,Ψ (hdX h o).ser]:=rfl;have A:=u.out;rw[M]at A;generalize hdX h o=x at*
 generalize x.fmt=v at*
 generalize x.size=d at*
 generalize erX h o=L at*
 have u:=hid A;clear A M G j H;by_cases B:L=0
 ·subst B;by_cases C:v=1
  ·subst C;by_cases y:n<=d
   ·have N:decide ((n:Int)<=(d:Int))=true:=dT;have D:decide (n<=d)=true:=decide_eq_true y;obtain rfl:r=true:=by rw[g.out,D];rfl
    clear g y;go_enter func143,ntmps143;go_wp2_with fail;refine(u.out).mono ?_;rintro e V ⟨rfl,hB⟩;have k:=hB.alloc hB.size (.cells #[I d,I 1,I x.spare,Ψ x.cls,Ψ x.ser] 94);go_wp2;go_ret;exact⟨rfl,k⟩
   ·have N:decide ((n:Int)<=(d:Int))=false:=dF;have D:decide (n<=d)=false:=decide_eq_false y;obtain rfl:r=false:=by rw[g.out,D];rfl
    clear g y;go_enter func143,ntmps143;go_wp2_with fail;refine(u.out).mono ?_;rintro e V ⟨rfl,hB⟩;have k:=hB.alloc hB.size (.cells #[I d,I 1,I x.spare,Ψ x.cls,Ψ x.ser] 94);go_wp2;go_ret;exact⟨rfl,k⟩
  ·have q:((v:Int)==1)=false:=nE;have O:(v==1)=false:=by rw[beq_eq_false_iff_ne];exact C
   obtain rfl:r=false:=by rw[g.out,decide_eq_false C];rfl
   clear g;go_enter func143,ntmps143;go_wp2_with fail;refine(u.out).mono ?_;rintro e V ⟨rfl,hB⟩;have k:=hB.alloc hB.size (.cells #[I d,I v,I x.spare,Ψ x.cls,Ψ x.ser] 94);go_wp2;go_ret;exact⟨rfl,k⟩
 ·have q:((L:Int)==0)=false:=nE;have O:(L==0)=false:=by rw[beq_eq_false_iff_ne];exact B
  obtain rfl:r=false:=by rw[g.out,decide_eq_false B];rfl
  clear g;go_enter func143,ntmps143;go_wp2_with fail;refine(u.out).mono ?_;rintro e V ⟨rfl,hB⟩;have k:=hB.alloc hB.size (.cells #[I d,I v,I x.spare,Ψ x.cls,Ψ x.ser] 94);go_wp2;go_ret;exact⟨rfl,k⟩
theorem yF{o i:Nat}(c:isF h o 1 0=true):jL h o (i:Int) [1,4]=pz h o i:=by
 unfold isF at c;simp only[Bool.and_eq_true,decide_eq_true_eq]at c;obtain⟨⟨h1,b⟩,_⟩:=c;unfold jL pz;have a:(hdO h o).len=(hdO h o).size:=fr ω;by_cases d:i+1<=(hdO h o).size
 ·rw[if_pos (lookE_zero.2 ⟨h1,by rw[b];rfl,ω,by rw[a];omega⟩),if_pos (by unfold isF;rw[h1,decide_eq_true b,decide_eq_true d];rfl),Int.toNat_natCast]
 ·rw[if_neg (fun e=>by have:=(lookE_zero.1 e).2.2.2;rw[a]at this;omega),if_neg (by unfold isF;rw[h1,decide_eq_true b,decide_eq_false d];decide)]
theorem Cg{o i:Nat}(a:isF h o 1 0=false):pz h o i=0:=by
 unfold pz;rw[if_neg];intro e;unfold isF at a e;simp only[Bool.and_eq_true,decide_eq_true_eq]at e;rw[e.1.1,decide_eq_true e.1.2]at a;simp at a
theorem ip(H:HeapAt w F h)(o i:Nat)(j:o<4294967296)(p:i<=65535):Calls prog 216 #[E F.p,Ψ o,I i] w fun e w'=>e= .returned (Ψ (pz h o i:Nat))/\Below w w w':=by
 have b:=hid (cP H o 0 j);have d:=hid (fun X (f:Below w w X)=>kT (H.below f) o j (i:Int) ω ω)
 cases hp:isF h o 1 0 with
 |true=>
  have g:=d.out;rw[yF hp]at g;have a:=b.out;rw[hp]at a;have d:=hid g;have b:=hid a;generalize pz h o i=v at*
  generalize bB h o (i:Int) [1,4]=l at*
  clear g a hp H;go_enter func216,ntmps216;go_wp2_with fail;refine(b.out).mono ?_;rintro e V ⟨rfl,c⟩;go_wp2_with fail;refine(d.out V c).mono ?_;rintro e k ⟨rfl,f⟩;replace c:=τ c f;clear f;go_wp2;go_ret;exact⟨rfl,c⟩
 |false=>
  rw[Cg hp];have a:=b.out;rw[hp]at a;have b:=hid a;clear a hp H d;go_enter func216,ntmps216;go_wp2_with fail;refine(b.out).mono ?_;rintro e V ⟨rfl,c⟩;go_wp2;go_ret;exact⟨rfl,c⟩
theorem gQ(H:HeapAt w F h)(o:Nat)(k:o<4294967296):Calls prog 220 #[E F.p,Ψ o] w fun e w'=>e= .returned (I (hdX h o).size)/\Below w w w':=by
 have b:=hid (di H o k);have g:hdV (hdX h o)= .agg #[I (hdX h o).size,I (hdX h o).fmt,I (hdX h o).spare,Ψ (hdX h o).cls,Ψ (hdX h o).ser]:=rfl;have d:=b.out;rw[g]at d;generalize hdX h o=x at*
 generalize erX h o=q at*
 have b:=hid d;clear d g H;go_enter func220,ntmps220;go_wp2_with fail;refine(b.out).mono ?_;rintro e V ⟨rfl,hB⟩;have j:=hB.alloc hB.size (.cells #[I x.size,I x.fmt,I x.spare,Ψ x.cls,Ψ x.ser] 94);go_wp2;go_ret;exact⟨rfl,j⟩
end
theorem ic(W:World):(sizeOf 3).run prog W= .ok 1 W:=κ
def C4(h:Hp):Prop:= ∀j,j<5->bI (wd h.rt (wd [12,18,19,20,23] j))≠1
theorem Dr{j:Nat}(a:j<5):wd [12,18,19,20,23] j<64:=by
 have:j=0∨j=1∨j=2∨j=3∨j=4:=ω
 rcases this with rfl|rfl|rfl|rfl|rfl<;>decide
section
variable {w:World} {F:Foot} {h:Hp}
theorem eH(k:Limb.Good h)(i:Nat):wd h.rt i<4294967296:=k.rlim.wd i
theorem fo(H:HeapAt w F h)(hL:C4 h):Calls prog 141 #[E F.p] w fun e w'=>e= .returned (.bool false)/\Below w w w':=by
 have HT:=hid (tH H);have q:((h.ws.length:Int)==0)=false:=by rw[beq_eq_false_iff_ne];have:=H.good.pos;omega
 have q2:(h.ws.length==0)=false:=by rw[beq_eq_false_iff_ne];have:=H.good.pos;omega
 have HR:=hid (fun X (hb:Below w w X) j (hj:j<5)=>bD (H.below hb) (wd [12,18,19,20,23] j) (Dr hj));have HK:=hid (fun X j=>fY X (wd h.rt (wd [12,18,19,20,23] j)) (eH H.good _));have HLv:=hid hL;clear hL H;go_enter func141,ntmps141;go_wp2_with fail;refine(HT.out).mono ?_;rintro e w1 ⟨rfl,rfl⟩;obtain⟨W,hW,r0,hB,hz⟩:=aA w 3 [I 12,I 18,I 19,I 20,I 23];have HW:=hid hW;have r0:Row W w 3 (aC .i64 [12,18,19,20,23]):=r0;go_wp2;rw[<-HW.out];go_loopw[10] (fun i wr=> ∃k:Nat,k<=5/\i= .int .i64 k/\Row wr w 3 (aC .i64 [12,18,19,20,23])/\Below w w wr) (fun i _=>5-(intOf i).toNat);case atStart=>exact⟨0,Nat.zero_le _,rfl,r0,hB⟩
 case round=>
  clear r0 hB HW hW hz;obtain⟨k,hk,rfl,r0,hB⟩:=hrel;by_cases h0:k<5
  ·have d1:decide ((k:Int)<5)=true:=dT;have d2:decide (k<5)=true:=decide_eq_true h0;have sl:=r0.sl (n:=5) rfl δ;have ix:=fun W=>sl.index 62 underlying62 ic W .i64 k h0
   have cx:=sl.cell h0;rw[aJ (by exact h0)]at cx;have hr:=fun X hb=>HR.out X hb k h0
   have hk1:=fun X=>HK.out X k
   have hlv:=HLv.out k h0;generalize wd [12,18,19,20,23] k=rt at*
   generalize wd h.rt rt=v at*
   have q3:(((bI v:Nat):Int)==1)=false:=nE;have q4:(bI v==1)=false:=by rw[beq_eq_false_iff_ne];exact hlv
   generalize bI v=kv at*
   have HR1:=hid hr;have HK1:=hid hk1;clear hr hk1 hlv sl;go_wp2_with fail;refine(HR1.out wr hB).mono ?_;rintro e V ⟨rfl,rfl⟩;go_wp2_with fail;refine(HK1.out _).mono ?_;rintro e V ⟨rfl,rfl⟩;go_wp2;go_roundw;case rel=>exact⟨k+1,h0,by simp,r0,hB⟩
   case measure=>exact μ
  ·obtain rfl:k=5:=ω
   go_wp2;go_ret;exact⟨rfl,hB⟩
end
def tx(S:ByteArray):List Nat:=S.data.toList.map UInt8.toNat
theorem cJ(S:ByteArray):(tx S).length=S.size:=by unfold tx;rw[List.length_map,Array.length_toList];rfl
theorem jP(S:ByteArray):B8 (tx S):=by
 intro x a;unfold tx at a;obtain⟨u,_,rfl⟩:=List.mem_map.1 a;exact u.toNat_lt
theorem uj{l:List Nat}(c:B8 l):tx (strOfNums (l.map fun n:Nat=>(n:Int)))=l:=by
 unfold tx;rw[strOfNums_data,List.map_map,List.map_map]
 have: ∀x∈l,(UInt8.toNat∘(fun n:Int=>UInt8.ofNat n.toNat)∘fun n:Nat=>(n:Int)) x=x:=fun x b=>by
  show(UInt8.ofNat ((x:Int).toNat)).toNat=x
  rw[Int.toNat_natCast,UInt8.toNat_ofNat'];exact Nat.mod_eq_of_lt (c x b)
 exact(List.map_congr_left this).trans (List.map_id _)
theorem Ch{a b:ByteArray}(h:tx a=tx b):a=b:=by
 unfold tx at h
 have c:a.data.toList=b.data.toList:=by
  generalize a.data.toList=x at h;generalize b.data.toList=y at h
  induction x generalizing y with
  |nil=>cases y with
   |nil=>rfl
   |cons _ _=>simp at h
  |cons p s ih=>cases y with
   |nil=>simp at h
   |cons q t=>
    simp only[List.map_cons,List.cons.injEq]at h;rw[UInt8.toNat_inj.1 h.1,ih t h.2]
 obtain⟨⟨x⟩⟩:=a;obtain⟨⟨y⟩⟩:=b;simpa using c
theorem tg{P:Program}{w:World}{a:Option Addr}{l:List Nat}{n c:Nat}(d e:TypeId)(hs:P.underlying d=some (.slice e))(o:P.underlying e=some (.int .u8))(h:Lay .u8 w a l)(p: ∃g,a=some ⟨g,0,none⟩)(q:n=l.length)(v:B8 l): ∃s,tx s=l/\∀f,P.underlying f=some .string->(convert d f (.slice a n c)).run P w= .ok (.string s) w:=by
 refine⟨strOfNums (l.map fun n:Nat=>(n:Int)),uj v,?_⟩;obtain⟨g,rfl⟩:=p;refine run_convert_bytes_arg w d e hs o g 0 n c _ (by simp[q]) (fun i x=>?_);obtain⟨b,k,h1,m⟩:=h;have j:=(h1 ω).1;simp only[Option.some.injEq,Addr.mk.injEq,and_true]at j;obtain⟨rfl,rfl⟩:=j;rw[m i ω,wd_lt ω];simp[List.getD_eq_getElem?_getD,(ω:i<l.length)]
theorem yw{h:Hp}{t:List Nat}{o:Nat}:bT h t o=(decide (erX h o=0)&&decide ((hdX h o).len=t.length)&&decide (iY h o=0)&&decide (fF h o=t)):=by
 unfold bT isF erX hdX iY;by_cases a:isO h o=true
 ·rw[if_pos a,if_pos a,if_pos a,a];by_cases hf:(hdO h o).fmt=2
  ·rw[if_pos hf,decide_eq_true hf];simp
  ·rw[if_neg hf,decide_eq_false hf];simp
 ·rw[if_neg a,if_neg a,if_neg a];rw[Bool.not_eq_true]at a;rw[a];simp
theorem vd{h:Hp}(k:Limb.Good h){o:Nat}(b:iY h o=0):(fF h o).length=(hdO h o).len:=by
 unfold iY at b;by_cases a:isO h o=true
 ·rw[if_pos a]at b;by_cases hf:(hdO h o).fmt=2
  ·obtain⟨c,_⟩:=mD k a hf;unfold fF;rw[List.length_take,dk,bg k a];omega
  ·rw[if_neg hf]at b;omega
 ·rw[if_neg a]at b;omega
theorem xj(h:Hp)(o:Nat):B8 (fF h o):=fun x a=>DR _ x (List.mem_of_mem_take a)
section
variable {w:World} {F:Foot} {h:Hp}
theorem kQ(H:HeapAt w F h)(o:Nat)(U:o<4294967296)(S:ByteArray)(hS:S.size<=262140):Calls prog 257 #[E F.p,Ψ o,.string S] w fun e w'=>e= .returned (.bool (bT h (tx S) o))/\Below w w w':=by
 have k:=hid (uL H o U);have x:=hid (fun X (d:Below w w X)=>wj (H.below d) o U);obtain⟨r,N⟩: ∃b,b=bT h (tx S) o:=⟨_,rfl⟩;have A:=N;rw[yw,cJ]at A;rw[<-N];have y:=hid A;clear N A;by_cases p:erX h o=0
 ·by_cases B:(hdX h o).len=S.size
  ·have j:=k.out;rw[p,B]at j;have k:=hid j;have q:((S.size:Int) != (S.size:Int))=false:=by simp
   by_cases z:iY h o=0
   ·have d:=x.out;have D:=vd H.good z;have G:=xj h o;simp only[z,if_true]at d;rw[<-D]at d;have u:=y.out;rw[p,B,z]at u;simp only[decide_true,Bool.true_and]at u;generalize fF h o=bs at*
    have x:=hid d;have v:=hid u;have L:=hid G;clear d u D j G p B z y H;go_enter func257,ntmps257;go_wp2_with fail;refine(k.out).mono ?_;rintro e V ⟨rfl,f⟩;go_wp2_with fail;refine(x.out V f).mono ?_;rintro e V2 ⟨⟨a,c,rfl,hx⟩,d⟩;obtain⟨O,I⟩:=hx (by trivial);obtain⟨s,hs,Q⟩:=tg (P:=prog) (c:=c) 50 5 underlying50 underlying5 I O rfl L.out;have hc:=Q 9 underlying9;replace f:=τ f d;by_cases C:bs=tx S
    ·have M:s=S:=Ch (hs.trans C);subst M;obtain rfl:r=true:=by rw[v.out,decide_eq_true C]
     clear hs C v;go_wp2;go_ret;exact⟨rfl,f⟩
    ·have Y:(s.toList==S.toList)=false:=by
      rw[beq_eq_false_iff_ne];intro e;rw[ByteArray.toList_eq,ByteArray.toList_eq]at e;exact C (hs.symm.trans (by unfold tx;rw[e]))
     obtain rfl:r=false:=by rw[v.out,decide_eq_false C]
     clear hs C v;go_wp2;go_ret;exact⟨rfl,f⟩
   ·obtain rfl:r=false:=by rw[y.out,decide_eq_false z];simp
    have d:=x.out;simp only[z,if_false]at d;have R:(((iY h o:Nat):Int)==0)=false:=nE
    have T:(iY h o==0)=false:=(by rw[beq_eq_false_iff_ne];exact z);generalize iY h o=be at*
    have x:=hid d;clear d j p B z y H;go_enter func257,ntmps257;go_wp2_with fail;refine(k.out).mono ?_;rintro e V ⟨rfl,f⟩;go_wp2_with fail;refine(x.out V f).mono ?_;rintro e V2 ⟨⟨a,c,rfl,hx⟩,d⟩;replace f:=τ f d;clear d;clear hx;go_wp2;go_ret;exact⟨rfl,f⟩
  ·obtain rfl:r=false:=by rw[y.out,decide_eq_false B];simp
   have j:=k.out;rw[p]at j;have R:((((hdX h o).len:Nat):Int) != (S.size:Int))=true:=by rw[bne_iff_ne];omega
   have T:((((hdX h o).len:Nat):Int)==(S.size:Int))=false:=nE;have Z:((hdX h o).len==S.size)=false:=by rw[beq_eq_false_iff_ne];exact B
   generalize(hdX h o).len=ln at*
   have k:=hid j;clear j p B y H x;go_enter func257,ntmps257;go_wp2_with fail;refine(k.out).mono ?_;rintro e V ⟨rfl,f⟩;go_wp2;go_ret;exact⟨rfl,f⟩
 ·obtain rfl:r=false:=by rw[y.out,decide_eq_false p];simp
  have R:(((erX h o:Nat):Int) != 0)=true:=(by rw[bne_iff_ne];omega);have T:(((erX h o:Nat):Int)==0)=false:=nE
  have Z:(erX h o==0)=false:=(by rw[beq_eq_false_iff_ne];exact p);have j:=k.out;generalize erX h o=er at*
  have k:=hid j;clear j p y H x;go_enter func257,ntmps257;go_wp2_with fail;refine(k.out).mono ?_;rintro e V ⟨rfl,f⟩;go_wp2;go_ret;exact⟨rfl,f⟩
end
end Go.Proofs.YtfefijlnbhbplaaGreatDoor

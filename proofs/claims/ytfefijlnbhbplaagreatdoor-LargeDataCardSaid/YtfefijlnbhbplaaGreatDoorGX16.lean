/- Walks and laws that LargeData asks for. -/
import Derived.Test.YtfefijlnbhbplaaGreatDoorGX13
import Derived.Test.YtfefijlnbhbplaaGreatDoorGX06
import Derived.RangeFuncBox
import Derived.Shelf.Abstract
import Derived.OwnWalkIn
import Derived.TacticsInMore
import Derived.LoopNIn
import Derived.LoopIn
set_option linter.unusedVariables false
set_option linter.unusedSimpArgs false
set_option maxRecDepth 1000000
set_option maxHeartbeats 6400000
namespace Go.Proofs.YtfefijlnbhbplaaGreatDoor
open Limb
def fb(a:Bool)(x y:Int):Int:=if a=true then x.fdiv y else x.tdiv y
def fE(a:Bool)(x y:Int):Int:=if a=true then x.fmod y else x.tmod y
theorem rF{a b:Int}:(d8 a=d8 b)↔((a<0↔b<0)/\(a=0↔b=0)):=by
 unfold d8;constructor
 ·intro h;split at h<;>split at h<;>(try split at h)<;>(try split at h)<;>omega
 ·rintro⟨h1,d⟩;by_cases c:a<0
  ·rw[if_pos c,if_pos (h1.mp c)]
  ·rw[if_neg c,if_neg (fun h=>c (h1.mpr h))];by_cases h0:a=0
   ·rw[if_pos h0,if_pos (d.mp h0)]
   ·rw[if_neg h0,if_neg (fun h=>h0 (d.mpr h))]
theorem sgnI_zero{a:Int}:d8 a=0↔a=0:=by
 unfold d8;split<;>(try split)<;>omega
theorem kA(x:Int){y:Int}(c:y≠0):(x.tmod y).natAbs<y.natAbs:=by
 rw[vq];exact Nat.mod_lt _ ω
theorem jv{x y:Int}(c:y≠0):(d8 (x.tmod y)≠0->d8 (x.tmod y)≠d8 y->x.fdiv y=x.tdiv y-1/\x.fmod y=x.tmod y+y)/\((d8 (x.tmod y)=0∨d8 (x.tmod y)=d8 y)->x.fdiv y=x.tdiv y/\x.fmod y=x.tmod y):=by
 have e:=Int.mul_tdiv_add_tmod x y;have b:=kA x c;generalize x.tdiv y=q at e b ⊢;generalize x.tmod y=r at e b ⊢;have d:y*(q-1)=y*q-y:=by rw[Int.mul_sub,Int.mul_one]
 rw[Ne,Ne,sgnI_zero,rF];constructor
 ·intro h1 f;by_cases a:0<y
  ·exact(Int.fdiv_fmod_unique a).mpr ⟨ω,ω,ω⟩
  ·exact(Int.fdiv_fmod_unique' ω).mpr ⟨ω,ω,ω⟩
 ·intro h;by_cases a:0<y
  ·exact(Int.fdiv_fmod_unique a).mpr ⟨ω,ω,ω⟩
  ·exact(Int.fdiv_fmod_unique' ω).mpr ⟨ω,ω,ω⟩
theorem nD(f:Bool)(x:Int){y:Int}(d:y≠0):(fb f x y).natAbs<=x.natAbs:=by
 have e:=Int.mul_tdiv_add_tmod x y;have i:(x.tdiv y).natAbs=x.natAbs/y.natAbs:=tJ x y;have g:x.natAbs/y.natAbs<=x.natAbs:=Nat.div_le_self _ _;unfold fb;cases f
 ·rw[if_neg δ];omega
 ·rw[if_pos rfl];by_cases h:d8 (x.tmod y)=0∨d8 (x.tmod y)=d8 y
  ·rw[((jv d).2 h).1];omega
  ·simp only[not_or]at h;rw[((jv d).1 h.1 h.2).1];have h0:x.tmod y≠0:=fun e=>h.1 (sgnI_zero.mpr e)
   have j:=kA x d;have c:2<=y.natAbs:=ω
   have k:x≠0:=by rintro rfl;simp at h0
   have l:2*(x.natAbs/y.natAbs)<=x.natAbs:=by
    have:=Nat.div_mul_le_self x.natAbs y.natAbs;have m:x.natAbs/y.natAbs*2<=x.natAbs/y.natAbs*y.natAbs:=Nat.mul_le_mul_left _ c;omega
   omega
theorem o6(f:Bool)(x:Int){y:Int}(g:y≠0):(fE f x y).natAbs<y.natAbs:=by
 have d:=kA x g;unfold fE;cases f
 ·rw[if_neg δ];exact d
 ·rw[if_pos rfl];by_cases c:0<y
  ·have h1:=Int.fmod_nonneg_of_pos x c;have i:=Int.fmod_lt_of_pos x c;omega
  ·have e:=(Int.fdiv_fmod_unique' (a:=x) (b:=y) (r:=x.fmod y) (q:=x.fdiv y) ω).mp ⟨rfl,rfl⟩;omega
open Go Lib Go.RowKit Tryz
def dE(n:Int):Nat:=((2*n+1)%4294967296).toNat
def cN(o:Nat):Int:=(if o<2147483648 then(o:Int)-1 else(o:Int)-4294967296-1)/2
def bC(n:Int):Bool:=decide (-1073741824<=n)&&decide (n<=1073741823)
theorem EK{x:Int}(h0:0<=x)(h1:x<4294967296)(c:x%2=0):bits .or .u32 x 1=x+1:=by
 obtain⟨a,rfl⟩: ∃a:Nat,x=a:=⟨x.toNat,ω⟩;have b:=u32_or_nat a 1 ω ω;rw[nat_join 1 a 1 ω δ]at b;simpa using b
theorem lP(w:World)(n:Int)(b:bC n=true):Calls prog 38 #[I n] w fun e w'=>e=Rt #[Ψ (dE n),I 0]/\w=w':=by
 have a:=uO w n;unfold bC at b;rw[b]at a;have a:=hid a;go_enter func38,ntmps38;go_wp2_with fail;refine(a.out).mono ?_;rintro e W ⟨rfl,rfl⟩;go_wp2_with fail
 have c:bits .or .u32 (n%4294967296*2%4294967296) 1=(dE n:Int):=by
  rw[EK ω ω ω];unfold dE;omega
 rw[c];go_ret2;exact⟨rfl,rfl⟩
theorem yS(w:World)(o:Nat)(f:o<4294967296)(h1:o%2=1):Calls prog 195 #[Ψ o] w fun e w'=>e=Rt #[I (cN o),I 0]/\w=w':=by
 have a:=fY w o f;rw[show bI o=1 from by unfold bI;rw[if_neg ω,if_pos h1]]at a;have b:=hid a;go_enter func195,ntmps195;go_wp2_with fail;refine(b.out).mono ?_;rintro e W ⟨rfl,rfl⟩;go_wp2_with fail
 have c:wrap64 (wrap32 (o:Int)/2)=cN o:=by
  have d:cN o=(if o<2147483648 then(o:Int)-1 else(o:Int)-4294967296-1)/2:=rfl;simp only[wrap32,wrap64];split at d<;>omega
 rw[c];go_ret2;exact⟨rfl,rfl⟩
end Go.Proofs.YtfefijlnbhbplaaGreatDoor
namespace Go.Proofs.YtfefijlnbhbplaaGreatDoor.Limb
structure Grow (h h':Hp):Prop where
 good:Good h'
 rt:h'.rt=h.rt
 size:h'.size=h.size
 isF: ∀o f n,isF h o f n=true->isF h' o f n=true
theorem Grow.refl{h:Hp}(k:Good h):Grow h h:=⟨k,rfl,rfl,fun _ _ _ e=>e⟩
theorem Grow.trans{a b c:Hp}(x:Grow a b)(y:Grow b c):Grow a c:=⟨y.good,y.rt.trans x.rt,y.size.trans x.size,fun o f n e=>y.isF o f n (x.isF o f n e)⟩
theorem isF_iff{h:Hp}{o f n:Nat}:isF h o f n=true↔isO h o=true/\(hdO h o).fmt=f/\n<=(hdO h o).size:=by
 unfold Limb.isF;simp[and_assoc]
theorem aO{h:Hp}{o f n m:Nat}(e:isF h o f n=true)(a:m<=n):isF h o f m=true:=by
 rw[isF_iff]at e ⊢;exact⟨e.1,e.2.1,ω⟩
theorem aH{h:Hp}{o f n:Nat}(e:isF h o f n=true):isO h o=true:=(isF_iff.1 e).1
theorem DB{h:Hp}{o:Nat}(e:isO h o=true):isF h o (hdO h o).fmt 0=true:=isF_iff.2 ⟨e,rfl,Nat.zero_le _⟩
theorem Grow.isO{h a:Hp}(x:Grow h a){o:Nat}(e:isO h o=true):isO a o=true:=aH (x.isF _ _ _ (DB e))
theorem Grow.val{h a:Hp}(x:Grow h a){o:Nat}(e:dS h o=true):dS a o=true:=by
 unfold dS at e ⊢;simp only[Bool.or_eq_true]at e ⊢;rcases e with e|e
 ·exact .inl e
 ·exact .inr (x.isO e)
theorem Grow.cls{h a:Hp}(x:Grow h a){o:Nat}(e:cU h o=true):cU a o=true:=by
 unfold cU at e ⊢;simp only[Bool.or_eq_true]at e ⊢;rcases e with e|e
 ·exact .inl e
 ·exact .inr (x.isO e)
theorem aM{h:Hp}(k:Good h){o:Nat}(e:isO h o=true):o<4294967296:=by
 have:=isO_iff.1 e;have h1:=fS this.2.2;have:=k.len;have:=k.fits;have:=k.sM;omega
theorem bL{h:Hp}{o:Nat}(e:isO h o=true):dS h o=true:=by
 unfold dS;rw[e];simp
theorem bN{h:Hp}{o:Nat}(e:isO h o=true):cU h o=true:=by
 unfold cU;rw[e];simp
theorem tS{h:Hp}(k:Good h){f spare c:Nat}{fs:List Nat}(g:Good (bU h f spare c fs)):Grow h (bU h f spare c fs):=by
 refine⟨g,rfl,rfl,fun o l n e=>?_⟩;rw[isF_iff]at e ⊢;obtain⟨d,i,j⟩:=e;have a:=isO_iff.1 d;have b:hdO (bU h f spare c fs) o=hdO h o:=nC k a.2.2;refine⟨isO_iff.2 ⟨a.1,a.2.1,?_⟩,by rw[b];exact i,by rw[b];exact j⟩;rw[jc _ _ _ _ _ k];split
 ·rfl
 ·exact a.2.2
theorem xw{h:Hp}(k:Good h){f spare c:Nat}{fs:List Nat}(a:(⟨fs.length,f,spare,c,h.last+1⟩:Hd).Ok):isF (bU h f spare c fs) (kR h) f fs.length=true:=by
 have e:kR h/2=h.ws.length:=by unfold kR;omega
 have b:hdO (bU h f spare c fs) (kR h)=⟨fs.length,f,spare,c,h.last+1⟩:=by unfold hdO;rw[e];exact gP a
 rw[isF_iff];refine⟨isO_iff.2 ⟨by have:=k.pos;unfold kR;omega,by unfold kR;omega,?_⟩,by rw[b],by rw[b];exact Nat.le_refl _⟩;rw[e,jc _ _ _ _ _ k,if_pos rfl]
theorem bm{h b:Hp}(k:Good h){c f n o:Nat}(h1:1<=f)(d:f<=4)(j:n<=65535)(e:aW h c f n=some (o,b)):Grow h b/\isF b o f n=true:=by
 unfold aW at e;split at e
 ·rename_i a;rw[Bool.and_eq_true]at a;rw[Option.some.injEq,Prod.mk.injEq]at e;obtain⟨rfl,rfl⟩:=e
  have m:(if f=1∨f=4 then wd h.rt 0 else 0)<4294967296:=by
   split
   ·exact k.rlim.wd 0
   ·decide
  have g:=iC k h1 d j m a.1 a.2;refine⟨tS k g,?_⟩;have:=xw (spare:=0) (c:=c) (fs:=List.replicate n (if f=1∨f=4 then wd h.rt 0 else 0)) (f:=f) k ⟨by simpa using j,h1,d,Nat.zero_le _,.inl rfl⟩
  rwa [List.length_replicate]at this
 ·cases e
theorem mh{h b:Hp}(k:Good h){c o:Nat}{t:List Nat}(ht:B8 t)(f:t.length<=262140)(e:fK h c t=some (o,b)):Grow h b/\isF b o 2 0=true:=by
 unfold fK at e;split at e
 ·rename_i a;rw[Bool.and_eq_true]at a;rw[Option.some.injEq,Prod.mk.injEq]at e;obtain⟨rfl,rfl⟩:=e;have g:=jl k ht f a.1 a.2;have d:=ct t;exact⟨tS k g,aO (xw k ⟨by show(aU t).length<=65535;omega,by show 1<=2;decide,by show 2<=4;decide,by show 4*((t.length+3)/4)-t.length<=3;omega,by show 4*((t.length+3)/4)-t.length=0∨(2=2/\0<(aU t).length);rw[d];omega⟩) (Nat.zero_le _)⟩
 ·cases e
theorem aV{h:Hp}(k:Good h){o i v:Nat}(hf:isF h o 1 (i+1)=true)(c:v<4294967296):Grow h (putF h o i v):=by
 have g:=fq k hf δ c;rw[isF_iff]at hf;obtain⟨h1,d,b⟩:=hf;refine⟨g,rfl,rfl,fun p f n e=>?_⟩;rw[isF_iff]at e ⊢;have a:hdO (putF h o i v) p=hdO h p:=nj k (isO_iff.1 h1).2.2 (show i<(hd h (o/2)).size from b) (isO_iff.1 e.1).2.2;rw[a];exact⟨e.1,e.2⟩
theorem dy{h:Hp}(k:Good h){o c:Nat}(i:isO h o=true)(j:cU h c=true):Grow h (setC h o c):=by
 have d:=(isO_iff.1 i).2.2;have a:=eB k j;refine⟨k.setC d a,rfl,rfl,fun p f n e=>?_⟩;rw[isF_iff]at e ⊢;have g:hdO (setC h o c) p=if p/2=o/2 then{hd h (o/2)with cls:=c}else hd h (p/2):=yl k d (isO_iff.1 e.1).2.2
 refine⟨e.1,?_,?_⟩
 ·rw[g];split
  ·rename_i b;rw[<-b];exact e.2.1
  ·exact e.2.1
 ·rw[g];split
  ·rename_i b;rw[<-b];exact e.2.2
  ·exact e.2.2
theorem pI{h a:Hp}(k:Good h){r o:Nat}(c:o<4294967296)(e:jJ h r o=some a):Grow h a:=by
 unfold jJ at e;simp only at e;split at e
 ·rename_i b;rw[<-Option.some.inj e];exact aV k b c
 ·cases e
theorem Bt{h:Hp}{t:List Nat}(h0:ek h t≠0):isF h (ek h t) 2 0=true:=by
 unfold ek at h0 ⊢
 cases e:(aT h 3).find? (bT h t)with
 |none=>rw[e]at h0;exact absurd rfl h0
 |some a=>
  have:=List.find?_some e;unfold bT at this;simp only[Bool.and_eq_true]at this;exact this.1.1
theorem cI{h b:Hp}(k:Good h){o:Nat}{t:List Nat}(ht:B8 t)(l:t.length<=262140)(e:bY h t=some (o,b)):Grow h b/\isF b o 2 0=true:=by
 unfold bY at e;simp only at e;split at e
 ·obtain⟨⟨m,h1⟩,g,i⟩:=Option.bind_eq_some_iff.1 e;obtain⟨n,j,d⟩:=Option.map_eq_some_iff.1 i;rw[Prod.mk.injEq]at d;obtain⟨rfl,rfl⟩:=d;obtain⟨a,f⟩:=mh k ht l g;have c:=pI a.good (aM a.good (aH f)) j;exact⟨a.trans c,c.isF _ _ _ f⟩
 ·rename_i h0;rw[Option.some.injEq,Prod.mk.injEq]at e;obtain⟨rfl,rfl⟩:=e;exact⟨Grow.refl k,Bt h0⟩
theorem kS{h j:Hp}(k:Good h){o v:Nat}{t:List Nat}(ht:B8 t)(A:t.length<=262140)(B:v<4294967296)(e:dD h t v=some (o,j)):Grow h j/\isF j o 1 2=true:=by
 unfold dD at e;split at e
 ·obtain⟨⟨C,h1⟩,p,q⟩:=Option.bind_eq_some_iff.1 e;obtain⟨⟨D,E⟩,u,x⟩:=Option.bind_eq_some_iff.1 q;obtain⟨F,y,m⟩:=Option.map_eq_some_iff.1 x;rw[Prod.mk.injEq]at m;obtain⟨rfl,rfl⟩:=m;obtain⟨f,z⟩:=cI k ht A p;obtain⟨g,c⟩:=bm f.good δ δ δ u;have b:=aV g.good (i:=0) (aO c δ) (aM f.good (aH z));have d:=aV b.good (i:=1) (b.isF _ _ _ c) B;have l:=pI d.good (aM g.good (aH c)) y;exact⟨(((f.trans g).trans b).trans d).trans l,l.isF _ _ _ (d.isF _ _ _ (b.isF _ _ _ c))⟩
 ·cases e
structure Ker (h:Hp):Prop where
 live: ∀j,j<5->isO h (wd h.rt (wd [12,18,19,20,23] j))=true
 l3:isF h (wd h.rt 3) 1 0=true
 l4:isF h (wd h.rt 4) 1 0=true
theorem Ker.grow{h a:Hp}(x:Ker h)(g:Grow h a):Ker a:=by
 refine⟨fun j b=>?_,?_,?_⟩
 ·rw[g.rt];exact g.isO (x.live j b)
 ·rw[g.rt];exact g.isF _ _ _ x.l3
 ·rw[g.rt];exact g.isF _ _ _ x.l4
theorem jy{h:Hp}(k:Good h){i v:Nat}(a:i<64)(j:Nat):wd (setR h i v).rt j=if j=i then v else wd h.rt j:=cm (by rw[k.rlen];exact a) j
def zZ(p:Pk)(b:List Nat):Bool:=
 decide (b.length=22)&&((List.range 22).all fun i=>qF p (rd p.R (10+i)) 1 6&&qF p (wd b i) 1 6)&&([0,1,2,3,4,6,8].all fun r=>qO p (rd p.R r))&&qF p (rd p.R 3) 1 128&&qF p (rd p.R 4) 1 32&&qF p (rd p.R 8) 1 11
structure Paired (h:Hp) (ms:List Nat):Prop where
 good:Good h
 len:ms.length=22
 cls: ∀i,i<22->isF h (wd h.rt (10+i)) 1 6=true
 met: ∀i,i<22->isF h (wd ms i) 1 6=true
 low: ∀r,r∈[0,1,2,3,4,6,8]->isO h (wd h.rt r)=true
 l3:isF h (wd h.rt 3) 1 128=true
 l4:isF h (wd h.rt 4) 1 32=true
 l8:isF h (wd h.rt 8) 1 11=true
theorem js{h:Hp}(k:Good h){c:List Nat}(e:zZ (pk h) c=true):Paired h c:=by
 unfold zZ at e;simp only[Bool.and_eq_true,decide_eq_true_eq,List.all_eq_true,List.mem_range,ow k,qB,c8 k]at e;obtain⟨⟨⟨⟨⟨d,b⟩,f⟩,g⟩,j⟩,l⟩:=e;exact⟨k,d,fun i a=>(b i a).1,fun i a=>(b i a).2,f,g,j,l⟩
theorem Paired.grow{h b:Hp}{c:List Nat}(x:Paired h c)(g:Grow h b):Paired b c:=
 ⟨g.good,x.len,fun i a=>by rw[g.rt];exact g.isF _ _ _ (x.cls i a),fun i a=>g.isF _ _ _ (x.met i a),fun r d=>by rw[g.rt];exact g.isO (x.low r d),by rw[g.rt];exact g.isF _ _ _ x.l3,by rw[g.rt];exact g.isF _ _ _ x.l4,by rw[g.rt];exact g.isF _ _ _ x.l8⟩
theorem Paired.ker{h:Hp}{a:List Nat}(x:Paired h a):Ker h:=by
 refine⟨fun j b=>?_,aO x.l3 (Nat.zero_le _),aO x.l4 (Nat.zero_le _)⟩;have:j=0∨j=1∨j=2∨j=3∨j=4:=ω
 rcases this with rfl|rfl|rfl|rfl|rfl
 ·exact aH (x.cls 2 δ)
 ·exact aH (x.cls 8 δ)
 ·exact aH (x.cls 9 δ)
 ·exact aH (x.cls 10 δ)
 ·exact aH (x.cls 13 δ)
structure Steps (n:Nat) (h1 h2:Hp) (ms:List Nat) (hE:Hp):Prop where
 first:bZ cB (cG n)=some h1
 nil0:isO h1 (wd h1.rt 0)=true
 pairs:dp tenOn (jK [5,7,9] h1)=some (ms,h2)
 paired:Paired h2 ms
 rest:((dt 0 plans (ce bareCls (da ms 0 plans h2))).bind fun h=>(dV 0 sels h).bind fun h=>bo 0 plans h)=some hE
def vQ(n:Nat):Bool:=
 match fU cB (pk (cG n))with
 |none=>false
 |some p1=>qO p1 (rd p1.R 0)&&match(nw [5,7,9] p1).bind fun x=>kh tenOn x with
  |none=>false
  |some (ms,p2)=>zZ p2 ms
theorem BS{n:Nat}(h1:64<=n)(M:n<=1048576){t:Hp}(u:qe n=some t)(e:vQ n=true): ∃a b p,Steps n a b p t:=by
 unfold qe at u;obtain⟨N,l,x⟩:=Option.bind_eq_some_iff.1 u;unfold vz at l;obtain⟨y,m,o⟩:=Option.bind_eq_some_iff.1 l;unfold i9 at o;obtain⟨⟨p,O⟩,z,A⟩:=Option.map_eq_some_iff.1 o;have v:=dC h1 M;unfold vQ at e;split at e
 ·cases e
 ·rename_i I i;rw[Bool.and_eq_true]at e;obtain⟨q,f⟩:=e;obtain⟨c,B,rfl,r⟩:=ea cB _ v I i;obtain rfl:c=y:=Option.some.inj (B.symm.trans m);split at f
  ·cases f
  ·rename_i d L j;obtain⟨C,D,E⟩:=Option.bind_eq_some_iff.1 j;obtain⟨P,F,rfl,G⟩:=jk [5,7,9] c r C D;obtain rfl:=Option.some.inj F;obtain⟨g,s,rfl,H⟩:=ik tenOn _ G d L E;have k:=Option.some.inj (s.symm.trans z);rw[Prod.mk.injEq]at k;obtain⟨rfl,rfl⟩:=k;refine⟨c,g,d,m,?_,s,js H f,?_⟩
   ·rw[qB,c8 r]at q;exact q
   ·rw[A];exact x
theorem sZ:vQ 4000=true:=by decide+kernel
def so(n:Nat):Bool:=
 match(fU cB (pk (cG n))).bind fun x=>(nw [5,7,9] x).bind fun x=>(kh tenOn x).bind fun y=>(lh y.1 0 plans y.2).bind fun z=>(iB bareCls z).map fun p=>(y.1,p)with
 |none=>false
 |some (ms,p)=>zZ p ms
theorem zd{n:Nat}(h1:64<=n)(I:n<=1048576){a b L:Hp}{f:List Nat}(s:Steps n a b f L)(e:so n=true):Paired (ce bareCls (da f 0 plans b)) f:=by
 have j:=dC h1 I;unfold so at e;split at e
 ·cases e
 ·rename_i H p c;obtain⟨k,l,c⟩:=Option.bind_eq_some_iff.1 c;obtain⟨m,o,c⟩:=Option.bind_eq_some_iff.1 c;obtain⟨⟨d,q⟩,r,c⟩:=Option.bind_eq_some_iff.1 c;obtain⟨t,u,c⟩:=Option.bind_eq_some_iff.1 c;obtain⟨v,x,c⟩:=Option.map_eq_some_iff.1 c;rw[Prod.mk.injEq]at c;obtain⟨rfl,rfl⟩:=c;obtain⟨i,y,rfl,z⟩:=ea cB _ j k l;obtain rfl:i=a:=Option.some.inj (y.symm.trans s.first);obtain⟨M,A,rfl,B⟩:=jk [5,7,9] i z m o;obtain rfl:=Option.some.inj A;obtain⟨C,D,rfl,E⟩:=ik tenOn _ B d q r;have g:=Option.some.inj (D.symm.trans s.pairs);rw[Prod.mk.injEq]at g;obtain⟨rfl,rfl⟩:=g;obtain⟨N,w1,rfl,F⟩:=kD d plans 0 C E t u;obtain rfl:=Option.some.inj w1;obtain⟨O,c1,rfl,G⟩:=gZ bareCls _ F v x;obtain rfl:=Option.some.inj c1;exact js G e
theorem ry:so 4000=true:=by decide+kernel
def dg:Nat->Nat->List Nat
 |0,_=>[]
 |n+1,N=>N%4294967296 :: dg n (N/4294967296)
theorem pX(n N:Nat):(dg n N).length=n:=by
 induction n generalizing N with
 |zero=>rfl
 |succ n ih=>simp[dg,ih]
theorem B9(n N:Nat):Lim (dg n N):=by
 induction n generalizing N with
 |zero=>exact Lim.nil
 |succ n ih=>exact Lim.cons (Nat.mod_lt _ δ) (ih _)
theorem Bp(n N:Nat)(h:N<W n):val (dg n N)=N:=by
 induction n generalizing N with
 |zero=>rw[eS]at h;simp[dg,val];omega
 |succ n ih=>
  rw[bP]at h;simp only[dg,val];rw[ih _ ω];omega
theorem FD{l:List Nat}(h:Lim l){n:Nat}(a:l.length=n):l=dg n (val l):=by
 subst a;refine dX (by rw[pX]) fun i b=>?_
 rw[dP h,dP (B9 _ _),Bp _ _ (cC h)]
def two(n:Nat)(z:Int):List Nat:=dg n (z%(W n:Nat)).toNat
theorem c7(n:Nat)(z:Int):(two n z).length=n:=pX _ _
theorem fh(n:Nat)(z:Int):Lim (two n z):=B9 _ _
theorem nJ(n:Nat):(0:Int)<(W n:Nat):=by have:=gH n;omega
theorem CP(n:Nat)(z:Int):(val (two n z):Int)=z%(W n:Nat):=by
 have h1:=Int.emod_nonneg z (Int.ne_of_gt (nJ n));have a:=Int.emod_lt_of_pos z (nJ n);unfold two;rw[Bp _ _ ω];omega
theorem AO{l:List Nat}(h:Lim l){n:Nat}(hn:l.length=n){z:Int}(hv:(val l:Int)=z%(W n:Nat)):l=two n z:=by
 rw[FD h hn];unfold two;rw[<-hv];rfl
def pad(n:Nat)(l:List Nat):List Nat:=l++List.replicate (n-l.length) 0
theorem kG{n:Nat}{l:List Nat}(h:l.length<=n):(pad n l).length=n:=by unfold pad;simp;omega
theorem sS{n:Nat}{l:List Nat}(h:Lim l):Lim (pad n l):=h.append (Lim.replicate _ δ)
theorem xU(n:Nat)(l:List Nat):val (pad n l)=val l:=by
 unfold pad;rw[eW,cH,Nat.mul_zero,Nat.add_zero]
theorem ES(n:Nat)(l:List Nat)(i:Nat):wd (pad n l) i=wd l i:=by
 unfold pad;by_cases h:i<l.length
 ·exact eC h
 ·rw[eP ω,cF,eR ω]
def inv(l:List Nat):List Nat:=l.map fun x=>4294967295-x
theorem cY(l:List Nat):(inv l).length=l.length:=by simp[inv]
theorem nh(l:List Nat):Lim (inv l):=by
 intro x a;unfold inv at a;obtain⟨y,_,rfl⟩:=List.mem_map.1 a;omega
theorem yj{l:List Nat}(h:Lim l):val (inv l)+val l+1=W l.length:=by
 induction l with
 |nil=>simp[inv,val,eS]
 |cons d t ih=>
  have h1:=ih h.tail;have a:=h.head;unfold inv at h1 ⊢;simp only[List.map_cons,val,List.length_cons,bP];omega
def gD(j:Nat)(l:List Nat):List Nat:=(inv l).take j++l.drop j
theorem k8(l:List Nat):gD 0 l=l:=by simp[gD]
theorem cV(j:Nat)(l:List Nat):(gD j l).length=l.length:=by
 unfold gD;simp[cY];omega
theorem lU{j:Nat}{l:List Nat}(h:l.length<=j):gD j l=inv l:=by
 unfold gD;rw[List.take_of_length_le (by rw[cY];exact h),List.drop_of_length_le h,List.append_nil]
theorem Fn{l:List Nat}{i:Nat}(h:i<l.length):wd (inv l) i=4294967295-wd l i:=by
 rw[wd_lt (by rw[cY];exact h),wd_lt h];simp[inv]
theorem iW{l:List Nat}(j i:Nat)(h:i<l.length):wd (gD j l) i=if i<j then 4294967295-wd l i else wd l i:=by
 unfold gD;by_cases a:i<j
 ·rw[if_pos a,eC (by rw[List.length_take,cY];omega),wd_take a,Fn h]
 ·rw[if_neg a];by_cases b:j<=l.length
  ·rw[eP (by rw[List.length_take,cY];omega),List.length_take,cY,wd_drop];congr 1;omega
  ·omega
theorem mi{l:List Nat}{j:Nat}(h:j<l.length):(gD j l).set j (4294967295-wd l j)=gD (j+1) l:=by
 refine dX (by rw[List.length_set,cV,cV]) fun i b=>?_
 rw[List.length_set,cV]at b;rw[cm (by rw[cV];exact h),iW _ _ b,iW _ _ b];by_cases a:i=j
 ·subst a;simp
 ·rw[if_neg a];by_cases h1:i<j
  ·rw[if_pos h1,if_pos ω]
  ·rw[if_neg h1,if_neg ω]
theorem Bx{l:List Nat}{n:Nat}{zs:List Nat}(d:Lim l)(e:l.length<=n)(g:0<val l)(a:Lim zs)(f:n<=zs.length)(i:val zs=val (inv (pad n l))+1):zs.take n=two n (-(val l:Int)):=by
 have h1:=yj (sS (n:=n) d);rw[xU,kG e]at h1;refine AO (a.take n) (by rw[List.length_take];omega) ?_;have b:val zs<W n:=ω
 rw[fZ a,Nat.mod_eq_of_lt b];have c:((val zs:Nat):Int)= -(val l:Int)+(W n:Nat):=ω
 rw[<-Int.add_emod_right,<-c];exact(Int.emod_eq_of_lt ω ω).symm
theorem Ae{l zs:List Nat}{k c:Nat}(b:zs.length=k)(d:Lim l)(h:val zs+c*W k+val (l.take k)=W k):val (zs++[(4294967295-wd l k+c)%4294967296])+(4294967295-wd l k+c)/4294967296*W (k+1)+val (l.take (k+1))=W (k+1):=by
 rw[gY,b,aN l,bP];have e:=d.wd k;have f:=Nat.div_add_mod (4294967295-wd l k+c) 4294967296;generalize(4294967295-wd l k+c)/4294967296=q at*
 generalize(4294967295-wd l k+c)%4294967296=r at*
 have a:=congrArg (fun t=>W k*t) (show 4294967296*q+r+wd l k=4294967295+c by omega);simp only[Nat.mul_add]at a;have g:W k*(4294967296*q)=q*(4294967296*W k):=by rw[Nat.mul_comm,Nat.mul_right_comm,Nat.mul_comm (4294967296*_)]
 have i:W k*c=c*W k:=Nat.mul_comm _ _;have j:W k*4294967295=4294967295*W k:=Nat.mul_comm _ _;omega
theorem xa{l zs:List Nat}{n:Nat}(b:zs.length=n)(a:Lim zs)(c:l.length<=n)(d:Lim l)(h:zs=(pad n l)):zs=two n (val l:Int):=by
 refine AO a b ?_;rw[h,xU];have h1:=cC d;have e:=mt c;exact(Int.emod_eq_of_lt ω ω).symm
theorem vt{l:List Nat}{n k c:Nat}(hl:Lim l)(hk:k<n)(h:val ((two n (-(val l:Int))).take k)+c*W k+val (l.take k)=W k):(4294967295-wd l k+c)%4294967296=wd (two n (-(val l:Int))) k/\val ((two n (-(val l:Int))).take (k+1))+(4294967295-wd l k+c)/4294967296*W (k+1)+val (l.take (k+1))=W (k+1):=by
 have hT:=fh n (-(val l:Int));have hTl:=c7 n (-(val l:Int));have hTv:=CP n (-(val l:Int));generalize two n (-(val l:Int))=T at*
 have hlen:(T.take k).length=k:=by rw[List.length_take];omega
 have hst:=Ae hlen hl h;generalize(4294967295-wd l k+c)/4294967296=c' at*
 have hdl:(4294967295-wd l k+c)%4294967296<4294967296:=Nat.mod_lt _ δ;generalize(4294967295-wd l k+c)%4294967296=d at*
 have hlim:Lim (T.take k++[d]):=(hT.take k).append (Lim.cons hdl Lim.nil);have hlt:=cC hlim;rw[List.length_append,hlen]at hlt;have hlt:val (T.take k++[d])<W (k+1):=hlt
 have hdvd:((W (k+1):Nat):Int)∣((W n:Nat):Int):=by
  refine Int.natCast_dvd_natCast.2 ⟨W (n-(k+1)),?_⟩;rw[<-oA];congr 1;omega
 have e1:((val (T.take (k+1)):Nat):Int)= -(val l:Int)%(W (k+1):Nat):=by
  rw[fZ hT,Int.natCast_emod,hTv,Int.emod_emod_of_dvd _ hdvd]
 have e2:((val (T.take k++[d]):Nat):Int)= -(val l:Int)%(W (k+1):Nat):=by
  have h1:((val (T.take k++[d]):Nat):Int)%(W (k+1):Nat)=(val (T.take k++[d]):Nat):=Int.emod_eq_of_lt ω ω;rw[<-h1];rw[fZ hl]at hst;have h2:=Nat.div_add_mod (val l) (W (k+1));refine Int.emod_eq_emod_iff_emod_sub_eq_zero.2 (Int.emod_eq_zero_of_dvd ?_);refine⟨1-(c':Int)+(val l/W (k+1):Nat),?_⟩;have h3:((c'*W (k+1):Nat):Int)=(W (k+1):Nat)*(c':Int):=by rw[Int.natCast_mul,Int.mul_comm]
  have h4:((W (k+1)*(val l/W (k+1)):Nat):Int)=(W (k+1):Nat)*((val l/W (k+1):Nat):Int):=Int.natCast_mul _ _;rw[Int.mul_add,Int.mul_sub,Int.mul_one,<-h3,<-h4];omega
 have e3:val (T.take (k+1))=val (T.take k++[d]):=ω
 refine⟨?_,by rw[e3];exact hst⟩;rw[iz ω,gY,gY,hlen]at e3;have:=gH k;exact(Nat.eq_of_mul_eq_mul_left this ω).symm
theorem tM{l:List Nat}{n:Nat}(a:Lim l)(b:l.length<=n):two n (val l:Int)=pad n l:=by
 refine(xa (kG b) (sS a) b a rfl).symm
def kr{α:Type}(f:Nat->α)(k:Nat):List α:=(List.range k).map f
theorem ei{α:Type}(f:Nat->α)(k:Nat):kr f (k+1)=kr f k++[f k]:=by simp[kr,List.range_succ]
theorem iZ{α:Type}(f:Nat->α)(k:Nat):(kr f k).length=k:=by simp[kr]
theorem DH(T:List Nat):(kr (fun j=>(j,wd T j)) T.length).map Prod.snd=T:=by
 refine dX (by simp[kr]) fun i c=>?_
 have b:i<T.length:=by simpa[kr]using c
 rw[wd_lt c,wd_lt b];simp[kr,wd_lt b]
def bop(op x y:Nat):Nat:=if op=1 then x&&& y else if op=2 then x|||y else x^^^y
theorem EM{op x y:Nat}(b:x<4294967296)(a:y<4294967296):bop op x y<4294967296:=by
 unfold bop;have h1:=Nat.and_lt_two_pow (n:=32) x (y:=y) a;have c:=Nat.or_lt_two_pow (n:=32) b a;have d:=Nat.xor_lt_two_pow (n:=32) b a;split
 ·exact h1
 ·split
  ·exact c
  ·exact d
def eO(op:Nat)(xs ys:List Nat):List Nat:=List.zipWith (bop op) xs ys
theorem iu{op:Nat}{xs ys:List Nat}(h:xs.length=ys.length):(eO op xs ys).length=xs.length:=by
 unfold eO;rw[List.length_zipWith,h,Nat.min_self]
theorem pW{op:Nat}{xs ys:List Nat}(a:Lim xs)(b:Lim ys):Lim (eO op xs ys):=by
 intro x h;unfold eO at h;obtain⟨i,c,rfl⟩:=List.mem_iff_getElem.1 h;rw[List.getElem_zipWith];exact EM (a _ (List.getElem_mem _)) (b _ (List.getElem_mem _))
theorem ui{op:Nat}{xs ys:List Nat}{i:Nat}(h1:i<xs.length)(a:i<ys.length):wd (eO op xs ys) i=bop op (wd xs i) (wd ys i):=by
 have h:i<(eO op xs ys).length:=by unfold eO;rw[List.length_zipWith];omega
 rw[wd_lt h,wd_lt h1,wd_lt a];exact List.getElem_zipWith
def iO(s:List Nat):Int:=if wd s (s.length-1)<2147483648 then(val s:Int)else(val s:Int)-(W s.length:Nat)
def kK(op n:Nat)(x y:Int):Int:=iO (eO op (two n x) (two n y))
theorem qR{s:List Nat}(h:wd s (s.length-1)<2147483648):iO s=(val s:Int):=by unfold iO;rw[if_pos h]
theorem qx{s:List Nat}(d:Lim s)(h: ¬wd s (s.length-1)<2147483648):iO s= -((val (inv s)+1:Nat):Int)/\(iO s).natAbs=val (inv s)+1/\iO s<0:=by
 have h1:=yj d;have c:iO s= -((val (inv s)+1:Nat):Int):=by unfold iO;rw[if_neg h];omega
 rw[c];omega
theorem qm{s:List Nat}(c:Lim s):(rep (iO s).natAbs).length<=s.length+1:=by
 refine rep_length_le.2 ?_;have h1:=cC c;have d:=gH s.length;have f:=bP s.length;unfold iO;split<;>omega
end Go.Proofs.YtfefijlnbhbplaaGreatDoor.Limb
namespace Go.Proofs.YtfefijlnbhbplaaGreatDoor
open Go
theorem nt{x:Nat}(h:x<4294967296):bits .xor .u32 IntKind.u32.max (x:Int)=((4294967295-x:Nat):Int):=by
 show IntKind.u32.wrap ((BitVec.ofInt 32 4294967295^^^BitVec.ofInt 32 (x:Int)).toNat:Int)=_
 rw[(δ:BitVec.ofInt 32 4294967295=BitVec.allOnes 32),BitVec.allOnes_xor,BitVec.toNat_not,ofInt_u32 x h,IntKind.wrap_u32'];omega
open Lib Go.RowKit Go.Shelf Limb Tryz
attribute [local go_sem] Oper.semAt_some
structure Closed (w:World) (u:Value) (n:Nat) (z:Int) (Bn Ba:Nat) (neg:Bool) (a:Option Addr) (xs:List Nat) (cap:Nat):Prop where
 val:u= .func (.func 270) #[] #[E Bn,E Ba]
 rn:Row w Bn 3 [I n]
 ra:Row w Ba 24 [.bool neg,.slice a xs.length cap]
 lay:Lay .u32 w a xs
 lim:Lim xs
 len:xs.length<=n
 num:z=if neg then -(Limb.val xs:Int)else(Limb.val xs:Int)
 pos:neg=true->0<Limb.val xs
theorem Closed.below{w w':World}{u:Value}{n:Nat}{z:Int}{d e:Nat}{b:Bool}{a:Option Addr}{xs:List Nat}{cap:Nat}(h:Closed w u n z d e b a xs cap)(c:Below w w w'):Closed w' u n z d e b a xs cap:=
 ⟨h.val,h.rn.below c h.rn.lt,h.ra.below c h.ra.lt,h.lay.below c,h.lim,h.len,h.num,h.pos⟩
theorem i7(w:World)(neg:Bool)(a:Option Addr)(xs:List Nat)(m cap n:Nat)(hlay:Lay .u32 w a xs)(hlim:Lim xs)(hm:m=xs.length)(hn:m<=n)(hp:neg=true->0<val xs)(z:Int)(hz:z=if neg then -(val xs:Int)else(val xs:Int)):Calls prog 250 #[Ω neg a m cap,I n] w fun e w'=> ∃u,e= .returned u/\(∃Bn Ba,Closed w' u n z Bn Ba neg a xs cap)/\Below w w w':=by
 subst hm;have hb1:Below w w (w.alloc (.cells #[.bool neg,.slice a xs.length cap] 24)):=(Below.refl _ _).alloc ι _;have hb2:Below w w ((w.alloc (.cells #[.bool neg,.slice a xs.length cap] 24)).alloc (.cells #[I n] 3)):=hb1.alloc (by rw[World.size_alloc];omega) _
 have ra:Row ((w.alloc (.cells #[.bool neg,.slice a xs.length cap] 24)).alloc (.cells #[I n] 3)) w 24 [.bool neg,.slice a xs.length cap]:=by
  apply Row.alloc;unfold Row;exact heap_alloc_new _ _
 have rn:Row ((w.alloc (.cells #[.bool neg,.slice a xs.length cap] 24)).alloc (.cells #[I n] 3)) (N1 w) 3 [I n]:=by
  have h:=heap_alloc_new (w.alloc (.cells #[.bool neg,.slice a xs.length cap] 24)) (.cells #[I n] 3);rw[World.size_alloc]at h;exact h
 have hfin:=hid (show(∃Bn Ba,Closed _ (.func (.func 270) #[] #[E (N1 w),E w]) n z Bn Ba neg a xs cap)/\_ from⟨⟨_,_,⟨rfl,rn,ra,hlay.below hb2,hlim,hn,hz,hp⟩⟩,hb2⟩);clear ra rn hb1 hb2 hz hp;go_enter func250,ntmps250;go_wp2;go_ret;exact⟨_,rfl,hfin.out⟩
theorem Eh (F : Fence) (n : Nat) (h5 : F.fn 270) (hro : F.round = none) (hn : 1 <= n) (l k : Nat) (z : Int) (u : Value) (w0 : World) (Bn Ba : Nat) (neg : Bool) (a : Option Addr) (xs : List Nat) (cap : Nat) (hk : k <= 1099511627776) (H : Closed w0 u k z Bn Ba neg a xs cap) (J Jx : List (Nat × Nat) -> World -> Prop)
    (hY : ∀ pre x W, J pre W -> pre.length < k -> YieldAt F (n - 1) Tryz.prog l #[.int .i64 (x.1 : Nat), .int .u32 (x.2 : Nat)] W fun e W' =>
      (e = .returned (.bool true) /\ J (pre ++ [x]) W' /\ Below w0.heap.size W W') ∨ (e = .returned (.bool false) /\ Jx (pre ++ [x]) W'))
    (W : World) (hW : Below w0.heap.size w0 W) (h0 : J [] W) :
    CallsIn F n Tryz.prog 270 #[.func (.yield l) #[] #[], .pointer (some ⟨Bn, 0, none⟩), .pointer (some ⟨Ba, 0, none⟩)] W fun e W' => (∃ v, e = .returned v) /\
      ((∃ ys, ys = kr (fun j => (j, wd (two k z) j)) k /\ J ys W') ∨ (∃ pre, (∃ j, j <= k /\ pre = kr (fun j => (j, wd (two k z) j)) j) /\ Jx pre W')) := by
  obtain ⟨b1, off1, hix, hcx, _⟩ := H.lay.use 22 25 Tryz.underlying22 aK cap
  obtain ⟨m, hm⟩ : ∃ m, m = xs.length := ⟨_, rfl⟩
  have hrn := fun X (h : Below w0.heap.size w0 X) => (H.rn.below h H.rn.lt).ae 0
  have hra := fun X (h : Below w0.heap.size w0 X) => (H.ra.below h H.ra.lt).ae 0
  have hra1 := fun X (h : Below w0.heap.size w0 X) => (H.ra.below h H.ra.lt).ae 1
  simp only [List.getElem?_cons_zero, List.getElem?_cons_succ] at hrn hra hra1
  have hz := H.num
  have hlen := H.len
  rw [<- hm] at hix hcx hra1 hlen
  have hlim := H.lim
  have Hm := Lib.hid hm
  have Hlen := Lib.hid hlen
  have HIX := Lib.hid hix
  have HCX := Lib.hid hcx
  have HRN := Lib.hid hrn
  have HRA := Lib.hid hra
  have HRA1 := Lib.hid hra1
  have c0 := HRN.out W hW
  have Hlim := Lib.hid hlim
  have HY := Lib.hid hY
  clear hix hcx hm hrn hra hra1 H hlim hlen hY
  obtain ⟨T, hT⟩ : ∃ T, T = two k z := ⟨_, rfl⟩
  have hTl := Lib.hid (c7 k z)
  have hTm := Lib.hid (fh k z)
  rw [<- hT] at hTl hTm ⊢
  cases neg with
  | true =>
    rw [if_pos rfl] at hz
    subst hz
    have hst : Hid (val (T.take 0) + 1 * Limb.W 0 + val (xs.take 0) = Limb.W 0) := Lib.hid (by simp [val, eS])
    have HT := Lib.hid hT
    clear hT
    refine callsIn_of_wp Tryz.func270 rfl h5 ?_ hro
    simp only [Tryz.ntmps270, List.size_toArray, List.length_cons, List.length_nil, Nat.reduceAdd, Nat.reduceSub, Array.replicate_succ, Array.replicate_zero, List.push_toArray, List.append_toArray, List.nil_append, List.cons_append]
    gi_wp2
    gi_loopw [4, 9] (fun cv i wr => ∃ j c : Nat, j <= k /\ c <= 1 /\ cv = .int .u64 c /\ i = .int .i64 j /\ J (kr (fun j => (j, wd T j)) j) wr /\ Below w0.heap.size w0 wr /\ Hid (val (T.take j) + c * Limb.W j + val (xs.take j) = Limb.W j))
      (fun _ i _ => k - (intOf i).toNat)
    case atStart => exact ⟨0, 1, Nat.zero_le _, by omega, rfl, rfl, h0, hW, hst⟩
    case round =>
      obtain ⟨j, c, hj, hc, rfl, rfl, hJ, hB, Hv⟩ := hrel
      clear hst
      by_cases hlt : j < k
      · have c1 := HRA.out wr hB
        have c2 := HRA1.out wr hB
        have dg := vt Hlim.out hlt (by rw [<- HT.out]; exact Hv.out)
        rw [<- HT.out] at dg
        obtain ⟨x, hx⟩ : ∃ x, x = wd xs j := ⟨_, rfl⟩
        have hxl : x < 4294967296 := by rw [hx]; exact Hlim.out.wd j
        rw [<- hx] at dg
        obtain ⟨t, ht⟩ : ∃ t, t = 4294967295 - x + c := ⟨_, rfl⟩
        rw [<- ht] at dg
        obtain ⟨d, hd⟩ : ∃ d, d = wd T j := ⟨_, rfl⟩
        rw [<- hd] at dg
        obtain ⟨c', hc'⟩ : ∃ c', c' = t / 4294967296 := ⟨_, rfl⟩
        rw [<- hc'] at dg
        have e1 : (t : Int) % 4294967296 = (d : Int) := by omega
        have e2 : (t : Int) / 4294967296 = (c' : Int) := by omega
        have e3 := nt hxl
        obtain ⟨y, hy0⟩ : ∃ y, y = 4294967295 - x := ⟨_, rfl⟩
        rw [<- hy0] at e3 ht
        have hyl : y < 4294967296 := by omega
        have e4 : IntKind.u64.wrap (y : Int) = (y : Int) := by rw [IntKind.wrap_u64]; omega
        have e5 : IntKind.u64.wrap ((y : Int) + (c : Int)) = (t : Int) := by rw [IntKind.wrap_u64]; omega
        have hc1 : c' <= 1 := by omega
        have Hy0 := Lib.hid hy0
        have Hd2 := Lib.hid dg.2
        have Hx := Lib.hid hx
        have Hd := Lib.hid hd
        clear dg hx hd ht hc' hy0 hyl
        obtain ⟨fn, tmps, assign, body, hy, hR⟩ := HY.out _ (j, d) wr hJ (by rw [iZ]; exact hlt)
        dsimp only at hy
        by_cases hm : j < m
        · have ix := HIX.out wr .i64 j (by omega) (by omega)
          rw [Int.toNat_natCast] at ix
          have cx := HCX.out wr hB j hm
          rw [<- Hx.out] at cx
          gi_wp2
          refine hR.mono ?_
          rintro e W3 (⟨rfl, hJ3, hk3⟩ | ⟨rfl, hJx3⟩)
          · gi_wp2
            go_roundw
            case rel => exact ⟨j + 1, c', by omega, hc1, rfl, by go_num, by rw [ei, <- Hd.out]; exact hJ3, hB.trans hk3, Hd2⟩
            case measure => simp [intOf]; omega
          · gi_wp2
            refine bodyPost_ret (results_none rfl _ _ _) rfl ?_
            exact ⟨⟨_, rfl⟩, .inr ⟨_, ⟨j + 1, by omega, rfl⟩, by rw [ei, <- Hd.out]; exact hJx3⟩⟩
        · have hx0 : x = 0 := by rw [Hx.out]; exact eR (by rw [<- Hm.out]; omega)
          rw [hx0] at e3
          have e3 : bits .xor .u32 IntKind.u32.max 0 = (y : Int) := e3
          clear hx0
          gi_wp2
          refine hR.mono ?_
          rintro e W3 (⟨rfl, hJ3, hk3⟩ | ⟨rfl, hJx3⟩)
          · gi_wp2
            go_roundw
            case rel => exact ⟨j + 1, c', by omega, hc1, rfl, by go_num, by rw [ei, <- Hd.out]; exact hJ3, hB.trans hk3, Hd2⟩
            case measure => simp [intOf]; omega
          · gi_wp2
            refine bodyPost_ret (results_none rfl _ _ _) rfl ?_
            exact ⟨⟨_, rfl⟩, .inr ⟨_, ⟨j + 1, by omega, rfl⟩, by rw [ei, <- Hd.out]; exact hJx3⟩⟩
      · obtain rfl : j = k := by omega
        gi_wp2
        go_end0
        exact ⟨⟨_, rfl⟩, .inl ⟨_, rfl, hJ⟩⟩
  | false =>
    rw [if_neg (by decide)] at hz
    subst hz
    have hwd : ∀ j, wd T j = wd xs j := fun j => by rw [hT, tM Hlim.out (by rw [<- Hm.out]; exact Hlen.out), ES]
    have HWD := Lib.hid hwd
    have HT := Lib.hid hT
    clear hT hwd
    refine callsIn_of_wp Tryz.func270 rfl h5 ?_ hro
    simp only [Tryz.ntmps270, List.size_toArray, List.length_cons, List.length_nil, Nat.reduceAdd, Nat.reduceSub, Array.replicate_succ, Array.replicate_zero, List.push_toArray, List.append_toArray, List.nil_append, List.cons_append]
    gi_wp2
    gi_loopw [9] (fun i wr => ∃ j : Nat, j <= k /\ i = .int .i64 j /\ J (kr (fun j => (j, wd T j)) j) wr /\ Below w0.heap.size w0 wr)
      (fun i _ => k - (intOf i).toNat)
    case atStart => exact ⟨0, Nat.zero_le _, rfl, h0, hW⟩
    case round =>
      obtain ⟨j, hj, rfl, hJ, hB⟩ := hrel
      by_cases hlt : j < k
      · have c1 := HRA.out wr hB
        have c2 := HRA1.out wr hB
        obtain ⟨d, hd⟩ : ∃ d, d = wd T j := ⟨_, rfl⟩
        have Hd := Lib.hid hd
        have Hx := Lib.hid (hd.trans (HWD.out j))
        clear hd
        obtain ⟨fn, tmps, assign, body, hy, hR⟩ := HY.out _ (j, d) wr hJ (by rw [iZ]; exact hlt)
        dsimp only at hy
        by_cases hm : j < m
        · have ix := HIX.out wr .i64 j (by omega) (by omega)
          rw [Int.toNat_natCast] at ix
          have cx := HCX.out wr hB j hm
          rw [<- Hx.out] at cx
          gi_wp2
          refine hR.mono ?_
          rintro e W3 (⟨rfl, hJ3, hk3⟩ | ⟨rfl, hJx3⟩)
          · gi_wp2
            go_roundw
            case rel => exact ⟨j + 1, by omega, by go_num, by rw [ei, <- Hd.out]; exact hJ3, hB.trans hk3⟩
            case measure => simp [intOf]; omega
          · gi_wp2
            refine bodyPost_ret (results_none rfl _ _ _) rfl ?_
            exact ⟨⟨_, rfl⟩, .inr ⟨_, ⟨j + 1, by omega, rfl⟩, by rw [ei, <- Hd.out]; exact hJx3⟩⟩
        · have hx0 : d = 0 := by rw [Hx.out]; exact eR (by rw [<- Hm.out]; omega)
          rw [hx0] at hy
          have hy : _ := hy
          dsimp only [Int.natCast_zero] at hy
          gi_wp2
          refine hR.mono ?_
          rintro e W3 (⟨rfl, hJ3, hk3⟩ | ⟨rfl, hJx3⟩)
          · gi_wp2
            go_roundw
            case rel => exact ⟨j + 1, by omega, by go_num, by rw [ei, <- Hd.out]; exact hJ3, hB.trans hk3⟩
            case measure => simp [intOf]; omega
          · gi_wp2
            refine bodyPost_ret (results_none rfl _ _ _) rfl ?_
            exact ⟨⟨_, rfl⟩, .inr ⟨_, ⟨j + 1, by omega, rfl⟩, by rw [ei, <- Hd.out]; exact hJx3⟩⟩
      · obtain rfl : j = k := by omega
        gi_wp2
        go_end0
        exact ⟨⟨_, rfl⟩, .inl ⟨_, rfl, hJ⟩⟩
end Go.Proofs.YtfefijlnbhbplaaGreatDoor
namespace Go.Proofs.YtfefijlnbhbplaaGreatDoor
open Go Lib Go.RowKit Limb Tryz
theorem zi{xs zs:List Nat}{k c d:Nat}(g:k<zs.length)(h:val (zs.take k)+c*W k=val (xs.take k)*d):val ((zs.set k ((c+wd xs k*d)%4294967296)).take (k+1))+((c+wd xs k*d)/4294967296)*W (k+1)=val (xs.take (k+1))*d:=by
 rw[bK _ g,aN xs,bP];have b:=Nat.div_add_mod (c+wd xs k*d) 4294967296;generalize(c+wd xs k*d)/4294967296=q at*
 generalize(c+wd xs k*d)%4294967296=r at*
 have f:=congrArg (fun t=>W k*t) b;simp only[Nat.mul_add]at f;have i:W k*(4294967296*q)=q*(4294967296*W k):=by rw[Nat.mul_comm,Nat.mul_right_comm,Nat.mul_comm (4294967296*_)]
 have j:(val (xs.take k)+W k*wd xs k)*d=val (xs.take k)*d+W k*(wd xs k*d):=by rw[Nat.add_mul,Nat.mul_assoc]
 have l:W k*c=c*W k:=Nat.mul_comm _ _;omega
theorem AE(w:World)(a:Option Addr)(xs:List Nat)(n ca d:Nat)(ha:Lay .u32 w a xs)(hx:Lim xs)(hn:n=xs.length)(ln:n<=1099511627776)(hd:d<4294967296):Calls prog 284 #[.slice a n ca,.int .u64 d] w fun e w'=>lW w w' e (val xs*d):=by
 obtain⟨b1,off1,hix,hcx,_⟩:=ha.use 192 25 underlying192 aK ca;rw[<-hn]at hix hcx;have Hn:=hid hn;clear hn;have HX:=hid hix;clear hix;have HCX:=hid hcx;clear hcx;go_enter func284,ntmps284;go_wp2_with(at_make;refine aI rfl _ _ _ rfl 25 (Ψ 0) 4 underlying192 bz rfl _ _ _ _ (n+1) (n+1) rfl rfl (by simp) (by simp) ω ω ω ?_;intro w1 g hg1 hg2 hrow hbel);go_loopw[6,15] (fun cv i wr=> ∃(k c:Nat) (zs:List Nat),k<=n/\i= .int .i64 k/\cv= .int .u64 c/\c<4294967296/\zs.length=n+1/\Lim zs/\Row wr g 25 (aC .u32 zs)/\Hid (val (zs.take k)+c*Limb.W k=val (xs.take k)*d)/\Below w w wr) (fun _ i _=>n-(intOf i).toNat);case atStart=>exact⟨0,0,List.replicate (n+1) 0,ω,rfl,rfl,δ,by simp,Lim.replicate _ δ,by rw[aG];exact hrow,hid (by simp[val]),hbel⟩
 case round=>
  obtain⟨k,c,zs,hk,rfl,rfl,hc,hzl,hzlim,hr,Hv,hbl⟩:=hrel;have Hzl:=hid hzl;clear hzl;clear hrow hbel;by_cases hlt:k<n
  ·have ix:=HX.out wr .i64 k ω ω;rw[Int.toNat_natCast]at ix;have cx:=HCX.out wr hbl k hlt;have hcell:=hr.cell (i:=k) (by rw[Hzl.out];omega);have hfk:=hr.free k;have ig:=aX (P:=prog) underlying192 aK g (n+1) (n+1) .i64 (k:Int) k rfl ω;have hst:=zi (d:=d) (by rw[Hzl.out];omega) Hv.out;have hxl:=hx.wd k;obtain⟨x,hxe⟩:=ξ (wd xs k);rw[<-hxe]at cx hst hxl;obtain⟨m,hm⟩:=ξ (x*d);have hmul:x*d<=4294967295*4294967295:=Nat.mul_le_mul ω ω;have eM:(x:Int)*(d:Int)=(m:Int):=by rw[hm,Int.natCast_mul]
   rw[<-hm]at hst hmul;obtain⟨t,ht⟩:=ξ (c+m);rw[<-ht]at hst;have eT:(c:Int)+(m:Int)=(t:Int):=ω
   have eM2:IntKind.u64.wrap ((x:Int)*(d:Int))=(m:Int):=(by rw[eM,IntKind.wrap_u64];omega);have eT2:IntKind.u64.wrap ((c:Int)+(m:Int))=(t:Int):=by rw[eT,IntKind.wrap_u64];omega
   have tl:t<18446744073709551616:=ω;obtain⟨r,hre⟩:=ξ (t%4294967296);obtain⟨q,hqe⟩:=ξ (t/4294967296);rw[<-hre,<-hqe]at hst;have er:(t:Int)%4294967296=(r:Int):=ω
   have eq:(t:Int)/4294967296=(q:Int):=ω;have rl:r<4294967296:=ω
   have ql:q<4294967296:=ω;have Hst:=hid hst;clear hst hm ht hre hqe hmul hxe;go_wp2;go_roundw;case rel=>exact⟨k+1,q,zs.set k r,ω,by go_num,rfl,ql,by rw[List.length_set,Hzl.out],hzlim.set rl,hr.store _ _ _ rfl,Hst.out,aw hbl hg1 _⟩
   case measure=>exact μ
  ·obtain rfl:k=n:=ω
   have hcell:=hr.cell (i:=k) (by rw[Hzl.out];omega);have hfk:=hr.free k;have ig:=aX (P:=prog) underlying192 aK g (k+1) (k+1) .i64 (k:Int) k rfl ω;have ec:(c:Int)%4294967296=(c:Int):=ω
   have hr2:=hr.store k (c:Int) c rfl;have hl2:=hr2.lay;have hlim2:=hzlim.set (i:=k) hc;have hle2:=aQ hlim2
   have hval:Hid (val (zs.set k c)=val xs*d):=by
    have h:=Hv.out;have h2:=bK (l:=zs) c (show k<zs.length by rw[Hzl.out];omega);rw[List.take_of_length_le (show(zs.set k c).length<=k+1 by rw[List.length_set,Hzl.out];omega)]at h2;rw[List.take_of_length_le (show xs.length<=k by rw[<-Hn.out];omega)]at h;unfold Hid;rw[h2,<-h,Nat.mul_comm c]
   have hbl2:=aw hbl hg1 (i:=k) (Ψ (c:Int));go_wp2_with(go_at_call 224;refine(dA _ _ (zs.set k c) _ _ (by assumption) (by assumption) (by rw[List.length_set,Hzl.out]) ω ω).mono ?_;rintro e w' ⟨rfl,rfl⟩);go_ret;rw[List.length_set,Hzl.out]at hle2;rw[<-hval.out];exact⟨_,_,rfl,hle2,ω,hl2.norm hlim2,hbl2⟩
theorem CO(w:World)(t:TypeId)(b d f g i:Value): ∃W,W=w.alloc (.cells #[b,d,f,g,i] t)/\Row W w t [b,d,f,g,i]/\Below w w W/\W.heap.size=w.heap.size+1:=
 ⟨_,rfl,by unfold Row;exact heap_alloc_new _ _,(Below.refl _ _).alloc ι _,by rw[World.size_alloc]⟩
theorem yI{x c d:Nat}(a:(rep x).length<=c)(b:d<4294967296):(rep (x*d)).length<=c+1:=by
 refine rep_length_le.2 ?_;have h1:=rep_length_le.1 a;rw[bP,Nat.mul_comm 4294967296];exact Nat.mul_lt_mul_of_lt_of_lt h1 b
theorem e8(w:World)(a:Option Addr)(x n ca d C:Nat)(o:Lay .u32 w a (rep x))(k:n=(rep x).length)(p:n<=C)(q:C<=1099511627776)(m:d<4294967296):Calls prog 284 #[.slice a n ca,.int .u64 d] w fun e w'=> ∃b f j,e= .returned (.slice b f j)/\Hid (f=(rep (x*d)).length/\f<=C+1/\Lay .u32 w' b (rep (x*d)))/\Below w w w':=by
 have h:=AE w a (rep x) n ca d o (aB _) k ω m;rw[aE]at h;refine h.mono ?_;rintro e w' ⟨b,j,rfl,h1,h2,h3,h4⟩;exact⟨b,_,j,rfl,hid ⟨rfl,yI (by rw[<-k];exact p) m,h3⟩,h4⟩
theorem cD{X c:World}{d:Option Addr}{a z C:Nat}(h:Hid (a=(rep z).length/\a<=C/\Lay .u32 X d (rep z)))(f:Below X X c):Hid (a=(rep z).length/\a<=C/\Lay .u32 c d (rep z)):=hid ⟨h.out.1,h.out.2.1,h.out.2.2.below f⟩
theorem jC(w:World)(a b:Option Addr)(x y z n m:Nat)(ca cb C:Nat)(d:Hid (n=(rep x).length/\n<=C/\Lay .u32 w a (rep x)))(f:Hid (m=(rep y).length/\m<=C/\Lay .u32 w b (rep y)))(j:C<=1099511627776)(k:x=y+z):Calls prog 268 #[.slice a n ca,.slice b m cb] w fun e w'=> ∃a c s,e= .returned (.slice a s c)/\Hid (s=(rep z).length/\s<=c/\Lay .u32 w' a (rep z))/\Below w w w':=by
 refine(mu w a b x y n m ca cb d.out.2.2 f.out.2.2 d.out.1 f.out.1 (by have:=d.out.2.1;omega) ω).mono ?_;rw[(ω:x-y=z)];rintro e w' ⟨a,c,s,rfl,h1,h2,h3,h4⟩;exact⟨a,c,s,rfl,hid ⟨h1,h2,h3⟩,h4⟩
theorem fc{X d:World}{f:Option Addr}{a z c:Nat}(h:Hid (a=(rep z).length/\a<=c/\Lay .u32 X f (rep z)))(i:Below X X d):Hid (a=(rep z).length/\a<=c/\Lay .u32 d f (rep z)):=hid ⟨h.out.1,h.out.2.1,h.out.2.2.below i⟩
theorem yU(w:World)(A B C D X Y X' Y':Nat)(v x:Option Addr)(k p N O:Nat)(hx:Lay .u32 w v (rep X))(hy:Lay .u32 w x (rep Y))(P:k=(rep X).length)(Q:p=(rep Y).length)(lx:k<=1073741824)(ly:p<=1073741824)(lA:A<4294967296)(lB:B<4294967296)(lC:C<4294967296)(lD:D<4294967296)(h1:Y*B=X*A+X')(h2:X*C=Y*D+Y'):Calls prog 273 #[.agg #[.int .u64 (A:Nat),.int .u64 (B:Nat),.int .u64 (C:Nat),.int .u64 (D:Nat),.bool true],.slice v k N,.slice x p O] w fun e w'=> ∃a1 L d1 a2 M d2,e=Rt #[.slice a1 L d1,.slice a2 M d2]/\Hid (L=(rep X').length/\L<=d1/\Lay .u32 w' a1 (rep X'))/\Hid (M=(rep Y').length/\M<=d2/\Lay .u32 w' a2 (rep Y'))/\Below w w w':=by
 obtain⟨W,I,f,Z,hsz⟩:=CO w 305 (.int .u64 (A:Nat)) (.int .u64 (B:Nat)) (.int .u64 (C:Nat)) (.int .u64 (D:Nat)) (.bool true);have HWe:=hid I;clear I;have z:=hx.below Z;have F:=hy.below Z;have HX:=hid (fun V (h:Below W W V)=>z.below h);have HY:=hid (fun V (h:Below W W V)=>F.below h);have R:=hid (fun V (h:Below W W V)=>show V.cell? ⟨w,0,none⟩=some (.int .u64 (A:Nat))/\V.cell? ⟨w,1,none⟩=some (.int .u64 (B:Nat))/\V.cell? ⟨w,2,none⟩=some (.int .u64 (C:Nat))/\V.cell? ⟨w,3,none⟩=some (.int .u64 (D:Nat))from⟨(f.below h f.lt).ae 0,(f.below h f.lt).ae 1,(f.below h f.lt).ae 2,(f.below h f.lt).ae 3⟩);have G:=hid P;have H:=hid Q;have H1:=hid h1;have H2:=hid h2;have q4:=f.ae 4;simp only[yB,yC]at q4;have HB:=hid Z;clear hx hy z F P Q h1 h2 Z hsz f;go_enter func273,ntmps273;go_upto_region 2 with fail
 rw[<-HWe.out];clear q4;have hX:Below W W W.drew:=(Below.refl _ _).drew;refine wp_region_held (S:=fun V=>Below W W V) κ ?_;refine tk 0 (.slice x p O) ?_;refine tk 1 (Θ w 1) ?_;refine tk 2 (.int .u64 (B:Nat)) ?_ (y:=fun X hX=>by obtain⟨i0,i1,i2,i3⟩:=R.out X hX;go_simp);refine tk 4 (.slice v k N) ?_;refine tk 5 (E w) ?_;refine tk 6 (.int .u64 (A:Nat)) ?_ (y:=fun X hX=>by obtain⟨i0,i1,i2,i3⟩:=R.out X hX;go_simp);refine tk 9 (.slice v k N) ?_;refine tk 10 (Θ w 2) ?_;refine tk 11 (.int .u64 (C:Nat)) ?_ (y:=fun X hX=>by obtain⟨i0,i1,i2,i3⟩:=R.out X hX;go_simp);refine tk 13 (.slice x p O) ?_;refine tk 14 (Θ w 3) ?_;refine tk 15 (.int .u64 (D:Nat)) ?_ (y:=fun X hX=>by obtain⟨i0,i1,i2,i3⟩:=R.out X hX;go_simp);refine wo 3 ?_;unfold wpOp;go_simp;refine .inl ((e8 _ x Y p O B 1073741824 (HY.out _ hX) H.out ly δ lB).mono ?_);rintro e X1 ⟨m1,n1,c1,rfl,q,hb⟩;replace hX:=τ hX hb;clear hb;refine⟨hX,?_⟩;refine wo 7 ?_;unfold wpOp;go_simp;refine .inl ((e8 _ v X k N A 1073741824 (HX.out _ hX) G.out lx δ lA).mono ?_);rintro e X2 ⟨m2,n2,c2,rfl,T,hb⟩;replace q:=cD q hb;replace hX:=τ hX hb;clear hb;refine⟨hX,?_⟩;refine wo 8 ?_;unfold wpOp;go_simp;refine .inl ((jC _ m1 m2 _ _ X' n1 n2 c1 c2 1073741825 q T δ H1.out).mono ?_);rintro e X3 ⟨r1,d1,L,rfl,j,hb⟩;replace q:=cD q hb;replace T:=cD T hb;replace hX:=τ hX hb;clear hb;clear q T;refine⟨hX,?_⟩;refine wo 12 ?_;unfold wpOp;go_simp;refine .inl ((e8 _ v X k N C 1073741824 (HX.out _ hX) G.out lx δ lC).mono ?_);rintro e X4 ⟨m3,n3,c3,rfl,u,hb⟩;replace j:=fc j hb;replace hX:=τ hX hb;clear hb;refine⟨hX,?_⟩;refine wo 16 ?_;unfold wpOp;go_simp;refine .inl ((e8 _ x Y p O D 1073741824 (HY.out _ hX) H.out ly δ lD).mono ?_);rintro e X5 ⟨m4,n4,c4,rfl,U,hb⟩;replace j:=fc j hb;replace u:=cD u hb;replace hX:=τ hX hb;clear hb;refine⟨hX,?_⟩;refine wo 17 ?_;unfold wpOp;go_simp;refine .inl ((jC _ m3 m4 _ _ Y' n3 n4 c3 c4 1073741825 u U δ H2.out).mono ?_);rintro e X6 ⟨r2,d2,M,rfl,R2,hb⟩;replace j:=fc j hb;replace u:=cD u hb;replace U:=cD U hb;replace hX:=τ hX hb;clear hb;clear u U;refine⟨hX,?_⟩;refine tk 18 (.slice r1 L d1) ?_;refine tk 19 (.slice r2 M d2) ?_;refine wpAnyH_done κ ?_ _;go_wp2;go_ret2;exact⟨_,_,_,_,_,_,rfl,j,R2,HB.out.trans (hX.mono HB.out.size)⟩
theorem wm(w:World)(A B C D X Y X' Y':Nat)(v x:Option Addr)(k p N O:Nat)(hx:Lay .u32 w v (rep X))(hy:Lay .u32 w x (rep Y))(P:k=(rep X).length)(Q:p=(rep Y).length)(lx:k<=1073741824)(ly:p<=1073741824)(lA:A<4294967296)(lB:B<4294967296)(lC:C<4294967296)(lD:D<4294967296)(h1:X*A=Y*B+X')(h2:Y*D=X*C+Y'):Calls prog 273 #[.agg #[.int .u64 (A:Nat),.int .u64 (B:Nat),.int .u64 (C:Nat),.int .u64 (D:Nat),.bool false],.slice v k N,.slice x p O] w fun e w'=> ∃a1 L d1 a2 M d2,e=Rt #[.slice a1 L d1,.slice a2 M d2]/\Hid (L=(rep X').length/\L<=d1/\Lay .u32 w' a1 (rep X'))/\Hid (M=(rep Y').length/\M<=d2/\Lay .u32 w' a2 (rep Y'))/\Below w w w':=by
 obtain⟨W,I,f,Z,hsz⟩:=CO w 305 (.int .u64 (A:Nat)) (.int .u64 (B:Nat)) (.int .u64 (C:Nat)) (.int .u64 (D:Nat)) (.bool false);have HWe:=hid I;clear I;have z:=hx.below Z;have F:=hy.below Z;have HX:=hid (fun V (h:Below W W V)=>z.below h);have HY:=hid (fun V (h:Below W W V)=>F.below h);have R:=hid (fun V (h:Below W W V)=>show V.cell? ⟨w,0,none⟩=some (.int .u64 (A:Nat))/\V.cell? ⟨w,1,none⟩=some (.int .u64 (B:Nat))/\V.cell? ⟨w,2,none⟩=some (.int .u64 (C:Nat))/\V.cell? ⟨w,3,none⟩=some (.int .u64 (D:Nat))from⟨(f.below h f.lt).ae 0,(f.below h f.lt).ae 1,(f.below h f.lt).ae 2,(f.below h f.lt).ae 3⟩);have G:=hid P;have H:=hid Q;have H1:=hid h1;have H2:=hid h2;have q4:=f.ae 4;simp only[yB,yC]at q4;have HB:=hid Z;clear hx hy z F P Q h1 h2 Z hsz f;go_enter func273,ntmps273;go_upto_region 3 with fail
 rw[<-HWe.out];clear q4;have hX:Below W W W.drew:=(Below.refl _ _).drew;refine wp_region_held (S:=fun V=>Below W W V) κ ?_;refine tk 0 (.slice v k N) ?_;refine tk 1 (E w) ?_;refine tk 2 (.int .u64 (A:Nat)) ?_ (y:=fun X hX=>by obtain⟨i0,i1,i2,i3⟩:=R.out X hX;go_simp);refine tk 4 (.slice x p O) ?_;refine tk 5 (Θ w 1) ?_;refine tk 6 (.int .u64 (B:Nat)) ?_ (y:=fun X hX=>by obtain⟨i0,i1,i2,i3⟩:=R.out X hX;go_simp);refine tk 9 (.slice x p O) ?_;refine tk 10 (Θ w 3) ?_;refine tk 11 (.int .u64 (D:Nat)) ?_ (y:=fun X hX=>by obtain⟨i0,i1,i2,i3⟩:=R.out X hX;go_simp);refine tk 13 (.slice v k N) ?_;refine tk 14 (Θ w 2) ?_;refine tk 15 (.int .u64 (C:Nat)) ?_ (y:=fun X hX=>by obtain⟨i0,i1,i2,i3⟩:=R.out X hX;go_simp);refine wo 3 ?_;unfold wpOp;go_simp;refine .inl ((e8 _ v X k N A 1073741824 (HX.out _ hX) G.out lx δ lA).mono ?_);rintro e X1 ⟨m1,n1,c1,rfl,q,hb⟩;replace hX:=τ hX hb;clear hb;refine⟨hX,?_⟩;refine wo 7 ?_;unfold wpOp;go_simp;refine .inl ((e8 _ x Y p O B 1073741824 (HY.out _ hX) H.out ly δ lB).mono ?_);rintro e X2 ⟨m2,n2,c2,rfl,T,hb⟩;replace q:=cD q hb;replace hX:=τ hX hb;clear hb;refine⟨hX,?_⟩;refine wo 8 ?_;unfold wpOp;go_simp;refine .inl ((jC _ m1 m2 _ _ X' n1 n2 c1 c2 1073741825 q T δ H1.out).mono ?_);rintro e X3 ⟨r1,d1,L,rfl,j,hb⟩;replace q:=cD q hb;replace T:=cD T hb;replace hX:=τ hX hb;clear hb;clear q T;refine⟨hX,?_⟩;refine wo 12 ?_;unfold wpOp;go_simp;refine .inl ((e8 _ x Y p O D 1073741824 (HY.out _ hX) H.out ly δ lD).mono ?_);rintro e X4 ⟨m3,n3,c3,rfl,u,hb⟩;replace j:=fc j hb;replace hX:=τ hX hb;clear hb;refine⟨hX,?_⟩;refine wo 16 ?_;unfold wpOp;go_simp;refine .inl ((e8 _ v X k N C 1073741824 (HX.out _ hX) G.out lx δ lC).mono ?_);rintro e X5 ⟨m4,n4,c4,rfl,U,hb⟩;replace j:=fc j hb;replace u:=cD u hb;replace hX:=τ hX hb;clear hb;refine⟨hX,?_⟩;refine wo 17 ?_;unfold wpOp;go_simp;refine .inl ((jC _ m3 m4 _ _ Y' n3 n4 c3 c4 1073741825 u U δ H2.out).mono ?_);rintro e X6 ⟨r2,d2,M,rfl,R2,hb⟩;replace j:=fc j hb;replace u:=cD u hb;replace U:=cD U hb;replace hX:=τ hX hb;clear hb;clear u U;refine⟨hX,?_⟩;refine tk 18 (.slice r1 L d1) ?_;refine tk 19 (.slice r2 M d2) ?_;refine wpAnyH_done κ ?_ _;go_wp2;go_ret2;exact⟨_,_,_,_,_,_,rfl,j,R2,HB.out.trans (hX.mono HB.out.size)⟩
end Go.Proofs.YtfefijlnbhbplaaGreatDoor

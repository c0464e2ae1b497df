/- Walks and laws that LargeData asks for. -/
import Derived.Test.YtfefijlnbhbplaaGreatDoorGX37
set_option linter.unusedVariables false
set_option linter.unusedSimpArgs false
set_option maxRecDepth 1000000
set_option maxHeartbeats 6400000
namespace Go.Proofs.YtfefijlnbhbplaaGreatDoor
open Go Lib Go.RowKit Limb Tryz
theorem yH{l:List Nat}{k:Nat}(a:k<l.length):l.drop k=wd l k :: l.drop (k+1):=by
 rw[wd_lt a];exact List.drop_eq_getElem_cons a
section
variable {w:World} {F:Foot} {h:Hp}
theorem rm(H:HeapAt w F h)(K:Limb.Ker h)(l:List Nat)(n c ge:Nat)(hn:n=l.length)(hn1:n<=65535)(sl:Sl w ge 26 n c (aC .u32 l))(hge:ge∉F.l)(hl: ∀x∈l,isO h x=true)(o:Nat)(h1:Hp)(hp:aW h (wd h.rt 20) 1 n=some (o,h1)):Calls prog 147 #[E F.p,M ge n c] w fun e w'=>e=Rt #[Ψ o,I 0]/\Moved w F w' (aY o 0 l h1):=by
 have HBa:=hid (fo H (Ker.bare K));obtain⟨g1,i1⟩:=bm H.good δ δ hn1 hp
 have hlw: ∀k,k<n->isO h (wd l k)=true:=fun k hk=>by
  have hk':k<l.length:=ω;rw[wd_lt hk'];exact hl _ (List.getElem_mem hk')
 have HKd:=hid (fun X k (hk:k<n)=>show Calls prog 137 #[Ψ (wd l k:Nat)] X fun e w'=>e= .returned (I 2)/\X=w' from by
  have h4:=isO_iff.1 (hlw k hk);have h3:=fY X (wd l k) (aM H.good (hlw k hk));rw[kind_two.2 ⟨h4.1,h4.2.1⟩]at h3;exact h3)
 have HIs:=hid (fun X (hb:Below w w X) k (hk:k<n)=>show Calls prog 138 #[E F.p,Ψ (wd l k:Nat)] X fun e w'=>e= .returned (.bool true)/\X=w' from by
  have:=gK (H.below hb) (wd l k) (aM H.good (hlw k hk));rw[hlw k hk]at this;exact this)
 have HR:=hid (fun X (hb:Below w w X)=>bD (H.below hb) 20 δ);have HAl:=hid (fun X (hb:Below w w X)=>show Calls prog 11 #[E F.p,Ψ (wd h.rt 20:Nat),I 1,I n] X fun e w'=>e=Rt #[Ψ o,I 0]/\Moved w F w' h1 from(g9 (H.below hb) (wd h.rt 20) 1 n o h1 δ δ hn1 hp).mono fun e w' ⟨x,F',y⟩=>⟨x,F',Step.of_below hb y⟩);have HIx:=hid (fun W k (hk:k<n)=>sl.index 44 underlying44 ch W .i64 k hk)
 have HCx:=hid (fun X (ho:Only F.l w X) k (hk:k<n)=>show X.cell? ⟨ge,k,none⟩=O (Ψ (wd l k:Nat))from by
  rw[(sl.only ho hge).cell hk,aJ ω])
 have HPut:=hid (fun X F' hk (HX:HeapAt X F' hk) (hF:F'.p=F.p) (gr:Limb.Grow h1 hk) k (hkn:k<n)=>show Calls prog 59 #[E F.p,Ψ o,I k,Ψ (wd l k:Nat)] X fun e w'=>e= .returned (I 0)/\Step X F' w' F' (Limb.putF hk o k (wd l k))/\Limb.Grow h1 (Limb.putF hk o k (wd l k))from by
  have q1:=aO (gr.isF _ _ _ i1) (show k+1<=n by omega);have q2:=gr.isO (g1.isO (hlw k hkn));rw[<-hF];exact(fW HX q1 ω (bL q2) (aM HX.good q2)).mono fun e w' ⟨x,y⟩=>⟨x,y,gr.trans (aV HX.good q1 (aM HX.good q2))⟩)
 have HDr:=hid (fun k (hk:k<n)=>show l.drop k=wd l k :: l.drop (k+1)from yH ω);have HDn:=hid (show l.drop n=[]from by rw[hn];exact List.drop_length);have d9:decide ((65535:Int)<(n:Int))=false:=dF;have d9':decide (65535<n)=false:=dF;have hG1:=g1.good;obtain⟨hE,hhE⟩:=ξ (aY o 0 l h1);rw[<-hhE];have HE:=hid hhE;clear hhE hn hl hlw sl hp i1 g1 H K hge;go_enter func147,ntmps147;go_wp2_with fail;refine(HBa.out).mono ?_;rintro e V1 ⟨rfl,hB⟩;clear HBa;go_wp2;go_loopw[16] (fun i wr=> ∃k:Nat,k<=n/\i= .int .i64 k/\Below w w wr) (fun i _=>n-(intOf i).toNat);case atStart=>exact⟨0,Nat.zero_le _,rfl,hB⟩
 case round=>
  clear hB;obtain⟨k,hk,rfl,hB⟩:=hrel;by_cases h0:k<n
  ·have d1:decide ((k:Int)<(n:Int))=true:=dT;have d2:decide (k<n)=true:=decide_eq_true h0;have ix:=fun W=>HIx.out W k h0
   have cx:=HCx.out wr (Only.of_below hB) k h0;have HK1:=hid (fun X=>HKd.out X k h0);have HI1:=hid (HIs.out wr hB k h0);generalize wd l k=v at*
   go_wp2_with fail;refine(HK1.out _).mono ?_;rintro e V2 ⟨rfl,rfl⟩;go_wp2_with fail;refine(HI1.out).mono ?_;rintro e V2 ⟨rfl,rfl⟩;go_wp2;go_roundw;case rel=>exact⟨k+1,h0,by simp,hB⟩
   case measure=>exact μ
  ·obtain rfl:k=n:=ω
   have d1:decide ((k:Int)<(k:Int))=false:=dF;have d2:decide (k<k)=false:=dF;have HR1:=hid (HR.out wr hB);have HA1:=hid (HAl.out wr hB);go_wp2_with fail;refine(HR1.out).mono ?_;rintro e V2 ⟨rfl,rfl⟩;go_wp2_with fail;refine(HA1.out).mono ?_;rintro e V3 ⟨rfl,F1,hS⟩;have HS:=hid hS;clear hS HR1 HA1 hB HR HAl HKd HIs;go_wp2;go_loopw[47] (fun i wr=> ∃(j:Nat) (F':Foot) (hj:Hp),j<=k/\i= .int .i64 j/\Hid (Step w F wr F' hj)/\Hid (Limb.Grow h1 hj)/\Hid (aY o j (l.drop j) hj=hE)) (fun i _=>k-(intOf i).toNat);case atStart=>exact⟨0,F1,h1,Nat.zero_le _,rfl,HS,hid (Limb.Grow.refl hG1),hid HE.out.symm⟩
   case round=>
    clear HS HE;obtain⟨j,F',hj,hjn,rfl,HS,HG,HE⟩:=hrel;by_cases h0:j<k
    ·have d3:decide ((j:Int)<(k:Int))=true:=dT;have d4:decide (j<k)=true:=decide_eq_true h0;have ix:=fun W=>HIx.out W j h0
     have cx:=HCx.out wr HS.out.2.2 j h0;have HP1:=hid (HPut.out wr F' hj HS.out.1 HS.out.2.1.p HG.out j h0);have he:=HE.out;rw[HDr.out j h0]at he;have HE2:=hid (show aY o (j+1) (l.drop (j+1)) (Limb.putF hj o j (wd l j))=hE from he);clear he HE;generalize wd l j=v at*
     go_wp2_with fail;refine(HP1.out).mono ?_;rintro e V4 ⟨rfl,hS2,hG2⟩;have HS2:=hid (HS.out.trans hS2);have HG2:=hid hG2;clear hS2 hG2;go_wp2;go_roundw;case rel=>exact⟨j+1,F',_,h0,by simp,HS2,HG2,HE2⟩
     case measure=>exact μ
    ·obtain rfl:j=k:=ω
     have he:=HE.out;rw[HDn.out]at he;obtain rfl:hj=hE:=he;have HM:=hid (show Moved w F wr hj from⟨F',HS.out⟩);clear HE;go_wp2;go_ret2;exact⟨rfl,HM.out⟩
end
def Syms(w:World)(v:Value)(xs:List Nat)(B:Nat)(F:Foot):Prop:=
 (v= .slice none 0 0/\xs=[])∨∃g c,v= .slice (some ⟨g,0,none⟩) xs.length c/\Sl w g 26 xs.length c (aC .u32 xs)/\B<=g/\g∉F.l/\0<xs.length
section
variable {w:World} {F:Foot} {h:Hp}
theorem Syms.step{v:Value}{xs:List Nat}{B:Nat}(hs:Syms w v xs B F){w':World}{a:Foot}{d:Hp}(b:Step w F w' a d):Syms w' v xs B a:=by
 rcases hs with hs|⟨g,c,h1,h2,h3,h4,h5⟩
 ·exact .inl hs
 ·exact .inr ⟨g,c,h1,h2.only b.2.2 h4,h3,il b.2.1 h2.lt h4,h5⟩
theorem Syms.owns{v:Value}{xs:List Nat}{B:Nat}(hs:Syms w v xs B F):w.ownsRow 0 26 1 v xs.length (aC .u32 xs):=by
 rcases hs with⟨rfl,rfl⟩|⟨g,c,rfl,h2,h3,h4,h5⟩
 ·exact⟨rfl,.inl ⟨rfl,rfl⟩⟩
 ·exact h2.owns
theorem Syms.ownBlock{v:Value}{xs:List Nat}{B:Nat}(hs:Syms w v xs B F):v.ownBlock=none∨∃g,v.ownBlock=some g/\B<=g/\g∉F.l:=by
 rcases hs with⟨rfl,rfl⟩|⟨g,c,rfl,h2,h3,h4,h5⟩
 ·exact .inl rfl
 ·exact .inr ⟨g,rfl,h3,h4⟩
theorem tf{v:Value}{xs:List Nat}{X:World}{B:Foot}{h1:Hp}(S:Step w F X B h1)(hs:Syms X v xs w B)(h5w:5<=w.heap.size)(o:Nat)(hl:xs.length<=100000): ∃Q A,(Builtin.append_ #[44,44] 44 #[v,M X 1 1]).run prog (X.alloc (.cells #[Ψ o] 26))= .ok Q A/\Step w F A B h1/\Syms A Q (xs++[o]) w B:=by
 obtain⟨Z,hi,L,N,O⟩:=info_parts go;have V:Below X X (X.alloc (.cells #[Ψ o] 26)):=(Below.refl _ _).alloc ι _;have C:=hs.owns;have f:(X.alloc (.cells #[Ψ o] 26)).ownsRow 0 26 1 v xs.length (aC .u32 xs):=C.alloc _;obtain⟨Q,A,hr,h2,D,h4,b⟩:=run_append_own_at (P:=prog) (w:=X.alloc (.cells #[Ψ o] 26)) 0 44 44 26 Z (Ψ 0) 1 4 underlying44 hi L N O rfl δ v xs.length _ f ⟨X,0,none⟩ 1 1 (aC .u32 [o]) rfl (cell_one_new _ _ _) (by simp[aC,Value.oneCell']) (Nat.le_trans (show xs.length+1<=100001 by omega) δ) ω (Nat.zero_le _);have j:=S.below V;have Y:X.heap.size<(X.alloc (.cells #[Ψ o] 26)).heap.size:=by rw[World.size_alloc];omega
 have H:=S.1.lt;have m:=hs.ownBlock;have T:Only v.ownBlock.toList (X.alloc (.cells #[Ψ o] 26)) A:=⟨D.os,D.tape,D.output,D.size,fun k hk U=>D.block k hk (fun e=>by rw[<-e]at U;exact U (List.mem_singleton.2 rfl))⟩
 have x: ∀q∈v.ownBlock.toList,w.heap.size<=q/\q∉B.l/\5<=q:=by
  intro q d;rcases m with e|⟨g,e,e1,e2⟩
  ·rw[e]at d;cases d
  ·rw[e]at d;have d:q=g:=List.mem_singleton.1 d;subst d;exact⟨e1,e2,ω⟩
 have I:Step w F A B h1:=⟨j.1.only T (fun g hg e=>(x g e).2.1 hg) (fun e=>absurd (x _ e).2.2 δ),j.2.1,j.2.2.trans T (fun q d=> .inr (x q d).1)⟩;obtain⟨g',c',rfl,E,G⟩:=Sl.aj h2 ω;rw[<-bw]at G;refine⟨_,A,hr,I,.inr ⟨g',c',by rw[List.length_append];rfl,by rw[List.length_append];exact G,?_,?_,by rw[List.length_append];exact Nat.succ_pos _⟩⟩
 ·rw[E]at b;rcases b with b|b
  ·rcases m with e|⟨g,e,e1,e2⟩
   ·rw[e]at b;cases b
   ·rw[e]at b;rw[Option.some.inj b];exact e1
  ·have:=S.2.2.size;rw[Option.some.inj b];omega
 ·rw[E]at b;rcases b with b|b
  ·rcases m with e|⟨g,e,e1,e2⟩
   ·rw[e]at b;cases b
   ·rw[e]at b;rw[Option.some.inj b];exact e2
  ·intro e;have:=H _ e;rw[Option.some.inj b]at this;omega
theorem sU{fs:List (List Nat)}{k:Nat}(a:k<fs.length):(fs.map sv)[k]? =some (sv (fs.getD k [])):=by
 rw[List.getElem?_map,List.getElem?_eq_getElem a,List.getD_eq_getElem?_getD,List.getElem?_eq_getElem a];rfl
theorem iF{fs:List (List Nat)}{k:Nat}(a:k<fs.length):fs.drop k=fs.getD k [] :: fs.drop (k+1):=by
 rw[List.getD_eq_getElem?_getD,List.getElem?_eq_getElem a];exact List.drop_eq_getElem_cons a
theorem lQ(H:HeapAt w F h)(K:Limb.Ker h)(T:Nat)(hc:isF h T 1 6=true)(fs:List (List Nat))(n gf:Nat)(hn:n=fs.length)(hn0:0<n)(hn1:n<=100)(rf:Row w gf 9 (fs.map sv))(hgf:gf∉F.l)(hfs:fs.all (fun t=>okT t&&decide (0<t.length))=true)(h':Hp)(hp:kf h T fs=some h'):Calls prog 65 #[E F.p,Ψ T,M gf n n] w fun e w'=>e= .returned (I 0)/\Moved w F w' h':=by
 unfold kf at hp;obtain⟨⟨b,A⟩,e1,e2⟩:=Option.bind_eq_some_iff.1 hp;obtain⟨⟨a,D⟩,e3,e4⟩:=Option.map_eq_some_iff.1 e2;simp only at e3 e4
 have hok: ∀k,k<n->okT (fs.getD k [])=true/\0<(fs.getD k []).length:=fun k d=>by
  rw[List.all_eq_true]at hfs;have hk':k<fs.length:=ω
  have:=hfs (fs.getD k []) (by rw[List.getD_eq_getElem?_getD,List.getElem?_eq_getElem hk'];exact List.getElem_mem hk');simpa using this
 have U:=rf.sl (n:=n) (by rw[List.length_map];exact hn) (Nat.le_trans hn1 δ);have HIx:=hid (fun W k (d:k<n)=>U.index 69 underlying69 kU W .i64 k d)
 have HCx:=hid (fun X (ho:Only F.l w X) k (d:k<n)=>show X.cell? ⟨gf,k,none⟩=some (.string (cE (fs.getD k [])))from by
  rw[(rf.only ho hgf).ae];exact sU ω)
 have HIn:=hid (fun X q h1 (HX:HeapAt X q h1) (hF:q.p=F.p) (gr:Limb.Grow h h1) k (d:k<n) o j (hp:bY h1 (fs.getD k [])=some (o,j))=>show Calls prog 140 #[E F.p,.string (cE (fs.getD k []))] X fun e w'=>e=Rt #[Ψ o,I 0]/\Moved X q w' j from by
  obtain⟨q1,q2⟩:=hok k d;obtain⟨q3,q4⟩:=dU q1;rw[<-hF];exact gT HX (K.grow gr) (cE (fs.getD k [])) (by rw[bF];exact q4) (by rw[bF];exact q2) o j (by rw[ft q3];exact hp))
 have HGr:=hid (fun h1 (gr:Limb.Grow h h1) k (d:k<n) o j (hp:bY h1 (fs.getD k [])=some (o,j))=>show Limb.Grow h j/\isO j o=true/\Limb.Grow h1 j from by
  obtain⟨q1,q2⟩:=hok k d;obtain⟨q3,q4⟩:=dU q1;obtain⟨x,y⟩:=cI gr.good q3 q4 hp;exact⟨gr.trans x,aH y,x⟩)
 have B:=hid (fun h1 k (d:k<n) rest (hr:bR (fs.drop k) h1=some (rest,A))=>show∃o j f,bY h1 (fs.getD k [])=some (o,j)/\rest=o :: f/\bR (fs.drop (k+1)) j=some (f,A)from by
  rw[iF ω]at hr;obtain⟨⟨o,j⟩,x1,x2⟩:=Option.bind_eq_some_iff.1 hr;obtain⟨⟨r',h3⟩,x3,x4⟩:=Option.map_eq_some_iff.1 x2;rw[Prod.mk.injEq]at x4;obtain⟨rfl,rfl⟩:=x4;exact⟨o,j,r',x1,rfl,x3⟩)
 have V:=hid (fun h1 rest (hr:bR (fs.drop n) h1=some (rest,A))=>show rest=[]/\h1=A from by
  rw[hn,List.drop_length]at hr;have:=Option.some.inj hr;rw[Prod.mk.injEq]at this;exact⟨this.1.symm,this.2⟩)
 have HAr:=hid (fun X q (HX:HeapAt X q A) (hF:q.p=F.p) (gr:Limb.Grow h A) (ge c:Nat) (U:Sl X ge 26 n c (aC .u32 b)) (hge:ge∉q.l) (hall: ∀x∈b,isO A x=true) (L:n=b.length)=>show Calls prog 147 #[E F.p,M ge n c] X fun e w'=>e=Rt #[Ψ a,I 0]/\Moved X q w' (aY a 0 b D)from by
  rw[<-hF];exact rm HX (K.grow gr) b n c ge L ω U hge hall a D (by rw[hn];exact e3))
 have HGA:=hid (fun(gr:Limb.Grow h A) (hall: ∀x∈b,isO A x=true) (L:n=b.length)=>show Limb.Grow h (aY a 0 b D)/\isO (aY a 0 b D) a=true from by
  obtain⟨g1,i1⟩:=bm gr.good δ δ (show fs.length<=65535 by omega) e3
  have key: ∀(l:List Nat) (k:Nat) (d:Hp),Limb.Grow D d->(∀x∈l,isO A x=true)->k+l.length<=fs.length->Limb.Grow D (aY a k l d):=by
   intro l
   induction l with
   |nil=>intro k d g _ _;exact g
   |cons v t ih=>
    intro k d g hx Y;have Y:k+(t.length+1)<=fs.length:=Y;exact ih (k+1) _ (g.trans (aV g.good (aO (g.isF _ _ _ i1) ω) (aM g.good (g.isO (g1.isO (hx v (by simp))))))) (fun x hm=>hx x (List.mem_cons_of_mem _ hm)) ω
  have k2:=key b 0 D (Limb.Grow.refl g1.good) hall ω;exact⟨(gr.trans g1).trans k2,k2.isO (aH i1)⟩)
 have Z:=hid (fun X q (HX:HeapAt X q (aY a 0 b D)) (hF:q.p=F.p) (gr:Limb.Grow h (aY a 0 b D)) (ha:isO (aY a 0 b D) a=true)=>show Calls prog 59 #[E F.p,Ψ T,I 3,Ψ a] X fun e w'=>e= .returned (I 0)/\Moved X q w' h' from by
  rw[<-hF,<-e4];exact(fW HX (i:=3) (aO (gr.isF _ _ _ hc) δ) δ (bL ha) (aM HX.good ha)).mono fun e w' ⟨x,y⟩=>⟨x,_,y⟩)
 have e10:bR (fs.drop 0) h=some (b,A):=e1;have HS0:=hid (Step.refl H);have HG0:=hid (Limb.Grow.refl H.good);have h5w:5<=w.heap.size:=by have:=H.lt F.p (mM F);have:=H.low;omega
 clear hp e1 e2 e3 e4 hok U rf hgf hfs H K hc hn;go_enter func65,ntmps65;go_wp2;go_loopw[16,7] (fun i s wr=> ∃(k:Nat) (F':Foot) (d:Hp) (done rest:List Nat),k<=n/\i= .int .i64 k/\Hid (k=done.length)/\Hid (Step w F wr F' d)/\Hid (Limb.Grow h d)/\Hid (bR (fs.drop k) d=some (rest,A))/\Hid (done++rest=b)/\Hid (∀x∈done,isO d x=true)/\Hid (Syms wr s done w F')) (fun i _ _=>n-(intOf i).toNat);case atStart=>exact⟨0,F,h,[],b,Nat.zero_le _,rfl,hid rfl,HS0,HG0,hid e10,hid rfl,hid (by simp),hid (.inl ⟨rfl,rfl⟩)⟩
 case round=>
  clear HS0 HG0 e10;obtain⟨k,F',d,done,rest,hkn,rfl,O,P,HG,Q,z,C,R⟩:=hrel;by_cases h0:k<n
  ·have d1:decide ((k:Int)<(n:Int))=true:=dT;have d2:decide (k<n)=true:=decide_eq_true h0;obtain⟨o,j,f,x1,x2,x3⟩:=B.out d k h0 rest Q.out;obtain⟨y1,y2,y3⟩:=HGr.out d HG.out k h0 o j x1;have ix:=fun W=>HIx.out W k h0
   have cx:=HCx.out wr P.out.2.2 k h0;have HI1:=hid (HIn.out wr F' d P.out.1 P.out.2.1.p HG.out k h0 o j x1);have HX3:=hid x3;have HAll2:=hid (show(done++[o])++f=b by rw[<-z.out,x2,List.append_assoc];rfl)
   have HDn2:=hid (show∀x∈done++[o],isO j x=true from fun x hx=>by
    rcases List.mem_append.1 hx with e|e
    ·exact y3.isO (C.out x e)
    ·rw[List.mem_singleton.1 e];exact y2)
   have HG2:=hid y1;have HLd2:=hid (show k+1=(done++[o]).length by rw[List.length_append,<-O.out];rfl);generalize cE (fs.getD k [])=S at*
   clear x1 x2 x3 y1 y2 y3 Q z C HG;go_wp2_with fail;refine(HI1.out).mono ?_;rintro e X1 ⟨rfl,q,hS1⟩;have hsy:=R.out.step hS1;obtain⟨s',X2,hr,u,hsy2⟩:=tf (P.out.trans hS1) hsy h5w o (by have:=O.out;omega);have HR2:=hid hr;have G:=hid u;have HSy2:=hid hsy2;clear hS1 hsy hr u hsy2 R P cx ix;go_wp2_with(at_builtin;refine Lib.wpList_append_run _ rfl _ _ _ _ rfl _ _ rfl rfl _ _ HR2.out ?_);go_roundw;case rel=>exact⟨k+1,q,j,done++[o],f,h0,by simp,HLd2,G,HG2,HX3,HAll2,HDn2,HSy2⟩
   case measure=>exact μ
  ·obtain rfl:k=n:=ω
   obtain⟨x1,x2⟩:=V.out d rest Q.out;subst x1 x2;have hal:=z.out;rw[List.append_nil]at hal;subst hal;have L:=O.out;rcases R.out with⟨_,e⟩|⟨ge,c,rfl,U,q3,q4,q5⟩
   ·rw[e]at L;simp at L;omega
   ·rw[<-L]at U ⊢;have HA1:=hid (HAr.out wr F' P.out.1 P.out.2.1.p HG.out ge c U q4 C.out L);obtain⟨z1,z2⟩:=HGA.out HG.out C.out L;have HP1:=hid (fun X q hX hF=>Z.out X q hX hF z1 z2);have d1:decide ((k:Int)<(k:Int))=false:=dF;have d2:decide (k<k)=false:=dF;clear L U q3 q4 q5 z1 z2 O z C R Q V B HGr HIn HAr HGA Z;go_wp2_with fail;refine(HA1.out).mono ?_;rintro e X1 ⟨rfl,q,hS1⟩;have u:=P.out.trans hS1;have HP2:=hid (HP1.out X1 q u.1 u.2.1.p);have G:=hid u;clear hS1 u HA1 P HP1;go_wp2_with fail;refine(HP2.out).mono ?_;rintro e X2 ⟨rfl,F2,hS3⟩;have HM:=hid (show Moved w F X2 h' from⟨F2,G.out.trans hS3⟩);clear hS3 G;go_wp2;go_ret;exact⟨rfl,HM.out⟩
end
section
variable {w:World} {F:Foot} {h:Hp}
theorem HeapAt.not_mem{g:Nat}{e:TypeId}{j:List Value}(H:HeapAt w F h)(r:Row w g e j)(h1:e≠91)(k:e≠25)(l:e≠4)(m:e≠26):g∉F.l:=by
 obtain⟨n,f,i,a,b⟩:=H.row;obtain⟨_,a⟩:=a.row;obtain⟨_,b⟩:=b.row;have d:=H.roots;intro c;unfold Foot.l at c;simp only[List.mem_cons,List.not_mem_nil,or_false]at c;rcases c with e|e|e|e
 ·exact r.ne i h1 e
 ·exact r.ne a k e
 ·exact r.ne b l e
 ·exact r.ne d m e
theorem PlansAt.step{w':World}{F':Foot}{h':Hp}{g:Nat}{vs:List Value}(p:PlansAt w g vs)(H:HeapAt w F h)(s:Step w F w' F' h'):PlansAt w' g vs:=by
 refine⟨p.1,s.beside p.2.1 (H.not_mem p.2.1 δ δ δ δ),fun i a=>?_⟩;rcases p.2.2 i a with x|⟨x1,gf,x2,x3⟩
 ·exact .inl x
 ·exact .inr ⟨x1,gf,x2,s.beside x3 (H.not_mem x3 δ δ δ δ)⟩
theorem PlansAt.store{g gm i:Nat}{vs b:List Value}{v:Value}(p:PlansAt w g vs)(r:Row w gm 26 b):PlansAt (w.setCell ⟨gm,i,none⟩ v) g vs:=by
 refine⟨p.1,p.2.1.other (p.2.1.ne r δ) v,fun j a=>?_⟩;rcases p.2.2 j a with x|⟨x1,gf,x2,x3⟩
 ·exact .inl x
 ·exact .inr ⟨x1,gf,x2,x3.other (x3.ne r δ) v⟩
theorem BootRow.step{w':World}{F':Foot}{h':Hp}{pb:Nat}{G:Foot}(r:BootRow w G pb)(H:HeapAt w F h)(s:Step w F w' F' h'):BootRow w' G pb:=
 s.beside r (H.not_mem r δ δ δ δ)
end
def FQ(X:World):Option (Nat×List Value)->Prop
 |none=>True
 |some (pc,cs)=>Row X pc 114 cs
structure CW (B0:World) (F:Foot) (gm g pb:Nat) (rd:Option (Nat×List Value)) (vs:List Value) (ms:List Nat) (X:World) (F':Foot) (hk:Hp):Prop where
 gmo:gm∉F.l/\gm<B0.heap.size/\5<=gm
 st:StepC [gm] B0 F X F' hk
 boot:BootRow X F pb
 plans:PlansAt X g vs
 metas:Row X gm 26 (aC .u32 ms)
 rider:FQ X rd
section
variable {B0 X X':World} {F F' F'':Foot} {gm g pb:Nat} {rd:Option (Nat×List Value)} {vs:List Value} {ms:List Nat} {hk h':Hp}
theorem CW.step(c:CW B0 F gm g pb rd vs ms X F' hk)(s:Step X F' X' F'' h'):CW B0 F gm g pb rd vs ms X' F'' h':=
 ⟨c.gmo,c.st.step s,c.boot.step c.st.1 s,c.plans.step c.st.1 s,s.beside c.metas (c.st.aside c.gmo.1 c.gmo.2.1),by
  match rd,c.rider with
  |none,_=>trivial
  |some (pc,cs),r=>exact s.beside r (c.st.1.not_mem r δ δ δ δ)⟩
theorem CW.below(c:CW B0 F gm g pb rd vs ms X F' hk)(a:Below X X X'):CW B0 F gm g pb rd vs ms X' F' hk:=
 ⟨c.gmo,c.st.below a,Row.below c.boot a (Row.lt c.boot),c.plans.below a,c.metas.below a c.metas.lt,by
  match rd,c.rider with
  |none,_=>trivial
  |some (pc,cs),r=>exact Row.below r a (Row.lt r)⟩
theorem CW.store(c:CW B0 F gm g pb rd vs ms X F' hk)(i v:Nat):CW B0 F gm g pb rd vs (ms.set i v) (X.setCell ⟨gm,i,none⟩ (Ψ v)) F' hk:=
 ⟨c.gmo,c.st.store _ (.inl (by simp)) (c.st.aside c.gmo.1 c.gmo.2.1) c.gmo.2.2,Row.other c.boot (Row.ne c.boot c.metas δ) _,c.plans.store c.metas,c.metas.store i v v rfl,by
  match rd,c.rider with
  |none,_=>trivial
  |some (pc,cs),r=>exact Row.other r (Row.ne r c.metas δ) _⟩
theorem CW.ride(c:CW B0 F gm g pb none vs ms X F' hk){a:Nat}{b:List Value}(r:Row X a 114 b):CW B0 F gm g pb (some (a,b)) vs ms X F' hk:=⟨c.gmo,c.st,c.boot,c.plans,c.metas,r⟩
theorem CW.unride(c:CW B0 F gm g pb rd vs ms X F' hk):CW B0 F gm g pb none vs ms X F' hk:=⟨c.gmo,c.st,c.boot,c.plans,c.metas,trivial⟩
theorem CW.p(c:CW B0 F gm g pb rd vs ms X F' hk):F'.p=F.p:=c.st.2.1.p
theorem CW.hp(c:CW B0 F gm g pb rd vs ms X F' hk):HeapAt X F' hk:=c.st.1
theorem CW.at(c:CW B0 F gm g pb rd vs ms X F' hk){i:Nat}(a:i<ms.length):X.cell? ⟨gm,i,none⟩=O (Ψ (wd ms i:Nat)):=c.metas.cell a
end
theorem xe{n:Nat}(h:n<1073741824):dE n=2*n+1:=by unfold dE;omega
theorem xD(h:Hp)(n:Nat):dS h (2*n+1)=true:=by
 unfold dS;rw[decide_eq_true (show(2*n+1)%2=1 by omega)];simp
theorem uA{f a:Nat}{b:Bool}(h1:f<=1000)(c:a<=1000):bA f a b<100000:=by
 unfold bA;split<;>omega
section
variable {B0 X:World} {F F':Foot} {gm g pb:Nat} {rd:Option (Nat×List Value)} {vs:List Value} {ms:List Nat} {hk:Hp}
theorem vh(c:CW B0 F gm g pb rd vs ms X F' hk)(n o:Nat)(h':Hp)(b:n<=65535)(d:aW hk 0 1 n=some (o,h')):Calls prog 19 #[E pb,I n] X fun e X'=>e= .returned (Ψ o)/\∃F'',CW B0 F gm g pb rd vs ms X' F'' h':=by
 have a:BootRow X F' pb:=by have:=c.boot;unfold BootRow at this ⊢;rw[c.p];exact this
 exact(kV c.hp a (c.hp.not_mem c.boot δ δ δ δ) n o h' b d).mono fun e X' ⟨x,F'',y⟩=>⟨x,F'',c.step y⟩
theorem vu(c:CW B0 F gm g pb rd vs ms X F' hk)(i:Nat)(b:i<64)(v:Nat)(d:v<4294967296)(a:dS hk v=true):Calls prog 18 #[E F.p,I i,Ψ v] X fun e X'=>e= .returned (I 0)/\∃F'',CW B0 F gm g pb rd vs ms X' F'' (setR hk i v):=by
 rw[<-c.p];exact(kL c.hp i b v d a).mono fun e X' ⟨x,y⟩=>⟨x,F',c.step y⟩
theorem Co(c:CW B0 F gm g pb rd vs ms X F' hk)(i:Nat)(b:i<64):Calls prog 56 #[E pb,I i] X fun e X'=>e= .returned (Ψ (wd hk.rt i:Nat))/\Below X X X':=by
 have a:BootRow X F' pb:=by have:=c.boot;unfold BootRow at this ⊢;rw[c.p];exact this
 exact(iw c.hp a i b).mono fun e X' ⟨x,y⟩=>⟨x,by rw[<-y];exact Below.refl _ _⟩
theorem yi(c:CW B0 F gm g pb rd vs ms X F' hk)(i:Nat)(a:i<64):Calls prog 20 #[E F.p,I i] X fun e X'=>e= .returned (Ψ (wd hk.rt i:Nat))/\Below X X X':=by
 rw[<-c.p];exact(bD c.hp i a).mono fun e X' ⟨x,y⟩=>⟨x,by rw[<-y];exact Below.refl _ _⟩
theorem mz(c:CW B0 F gm g pb rd vs ms X F' hk){o i v:Nat}(hf:isF hk o 1 (i+1)=true)(b:i<=65535)(d:dS hk v=true)(a:v<4294967296):Calls prog 59 #[E F.p,Ψ o,I i,Ψ v] X fun e X'=>e= .returned (I 0)/\∃F'',CW B0 F gm g pb rd vs ms X' F'' (Limb.putF hk o i v):=by
 rw[<-c.p];exact(fW c.hp hf b d a).mono fun e X' ⟨x,y⟩=>⟨x,F',c.step y⟩
theorem ue(c:CW B0 F gm g pb rd vs ms X F' hk){o k:Nat}(a:isO hk o=true)(b:isO hk k=true):Calls prog 60 #[E F.p,Ψ o,Ψ k] X fun e X'=>e= .returned (I 0)/\∃F'',CW B0 F gm g pb rd vs ms X' F'' (Limb.setC hk o k):=by
 rw[<-c.p];exact(jT c.hp o k (aM c.hp.good a) (aM c.hp.good b) a (bN b)).mono fun e X' ⟨x,y⟩=>⟨x,F',c.step y⟩
theorem Ey(c:CW B0 F gm g pb rd vs ms X F' hk){o i:Nat}(b:i<64)(d:isO hk o=true)(f:isO hk (wd hk.rt i)=true):Calls prog 61 #[E pb,Ψ o,I i] X fun e X'=>e=Rt #[]/\∃F'',CW B0 F gm g pb rd vs ms X' F'' (Limb.setC hk o (wd hk.rt i)):=by
 have a:BootRow X F' pb:=by have:=c.boot;unfold BootRow at this ⊢;rw[c.p];exact this
 exact(qp c.hp a (c.hp.not_mem c.boot δ δ δ δ) o i b d f).mono fun e X' ⟨x,y⟩=>⟨x,F',c.step y⟩
end
end Go.Proofs.YtfefijlnbhbplaaGreatDoor

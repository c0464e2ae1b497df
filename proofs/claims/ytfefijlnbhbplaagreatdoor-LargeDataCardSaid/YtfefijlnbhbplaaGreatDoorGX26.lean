/- Walks and laws that LargeData asks for. -/
import Derived.Test.YtfefijlnbhbplaaGreatDoorGX24
import Derived.Test.YtfefijlnbhbplaaGreatDoorGX25
import Derived.Laws.CopyOwn
set_option linter.unusedVariables false
set_option linter.unusedSimpArgs false
set_option maxRecDepth 1000000
set_option maxHeartbeats 6400000
namespace Go.Proofs.YtfefijlnbhbplaaGreatDoor
open Go Lib Go.RowKit Limb Tryz
set_option linter.unusedSectionVars false
variable [Old]
theorem Fin.of{w W X:World}{g:Nat}{z:Int}{u:Value}(d:Row W g 24 [.bool false,.slice none 0 0])(f:Below w w W)(j:w.heap.size<=g)(k:ApiV X u z)(h:Below W W X): ∃a c,u= .agg #[.bool (decide (z<0)),.slice a (rep z.natAbs).length c]/\Fin w X g z a c:=by
 obtain⟨a,c,e,hf⟩:=fe d f j k h;exact⟨a,c,e,hf⟩
theorem yN{W X:World}{v:Value}{y:Int}(d:ApiV W v y)(i:(rep y.natAbs).length<=1073741824)(h:Below W W X):Calls prog 204 #[v] X fun e b=>(∃s a n c,e= .returned (Ω s a n c)/\ApiV b (Ω s a n c) (-y))/\Below W W b:=by
 refine(DL X v y (d.below h) ω).mono ?_;rintro e b ⟨u,rfl,hu,hb⟩;obtain⟨a,c,rfl,f⟩:=id hu;exact⟨⟨_,_,_,_,rfl,hu⟩,h.trans (hb.mono h.size)⟩
theorem yR{w W X:World}{g:Nat}{j k:Value}{x y:Int}(p:Row W g 24 [.bool false,.slice none 0 0])(q:Below w w W)(r:w.heap.size<=g)(h1:ApiV W j x)(v:(rep x.natAbs).length<=1073741824)(z:(rep y.natAbs).length<=1073741824)(B:ApiV X k y)(h:Below W W X)(C:Old.top<=W.heap.size):Calls prog 125 #[j,k] X fun e f=>(∃a c,e= .returned (Ω (decide (x+y<0)) a (rep (x+y).natAbs).length c)/\Fin w f g (x+y) a c)/\Below W W f:=by
 refine(sD X j k x y (h1.below h) B v z (Nat.le_trans C h.size)).mono ?_;rintro e f ⟨u,rfl,hu,hb⟩;have d:=h.trans (hb.mono h.size);obtain⟨a,c,rfl,hf⟩:=Fin.of p q r hu d;exact⟨⟨a,c,rfl,hf⟩,d⟩
theorem xO(w:World)(T U:Value)(x y:Int)(h1:ApiV w T x)(V:ApiV w U y)(lx:(rep x.natAbs).length<=1073741824)(Y:(rep y.natAbs).length<=1073741824)(ho:Old.top<=w.heap.size):Calls prog 126 #[T,U] w fun e w'=> ∃u,e= .returned u/\ApiV w' u (x-y)/\Below w w w':=by
 have f:=h1;have j:=V;obtain⟨C,c1,rfl,D,hl1⟩:=h1;obtain⟨E,F,rfl,G,hl2⟩:=V;obtain⟨H,k⟩: ∃n,n=(rep x.natAbs).length:=⟨_,rfl⟩;obtain⟨I,m⟩: ∃n,n=(rep y.natAbs).length:=⟨_,rfl⟩;obtain⟨L,p⟩: ∃s,s=decide (x<0):=⟨_,rfl⟩;obtain⟨M,q⟩: ∃s,s=decide (y<0):=⟨_,rfl⟩;rw[<-p,<-k]at f ⊢;rw[<-q,<-m]at j ⊢;obtain⟨N,O,P,r,Q⟩:=fI w 24 (.bool L) (.slice C H c1) (.bool M) (.slice E I F) (.bool false) (.slice none 0 0);obtain⟨W,d⟩:=ξ (((w.alloc (.cells #[.bool L,.slice C H c1] 24)).alloc (.cells #[.bool M,.slice E I F] 24)).alloc (.cells #[.bool false,.slice none 0 0] 24));rw[<-d]at N O P r Q;have A:=hid d;clear d;obtain⟨z,R⟩:=ξ (x+ -y);rw[show x-y=z from by omega];obtain⟨c0,c01⟩:=N.two;obtain⟨c10,c11⟩:=O.two;obtain⟨S,hs⟩:=gx N O P;have Z:=hid (fun X (h:Below W.heap.size W X)=>yN (j.below r) Y h);have B:=fun X s a n c (hv:ApiV X (Ω s a n c) (-y)) (h:Below W.heap.size W X)=>yR P r ω (f.below r) lx (by rw[Int.natAbs_neg];exact Y) hv h (Nat.le_trans ho r.size)
 rw[<-R]at B;have HA:=hid B;clear B;have HK:=hid S;clear S;have HS:=hid hs;clear hs;clear k m p q R D G;have h:=Below.refl W.heap.size W;go_enter func126,ntmps126;go_wp2;rw[<-A.out]
 go_region_held3 (fun X=>(X.cell? ⟨w,0,none⟩=some (.bool L)/\X.cell? ⟨w,1,none⟩=some (.slice C H c1)/\X.cell? ⟨N1 w,0,none⟩=some (.bool M)/\X.cell? ⟨N1 w,1,none⟩=some (.slice E I F)))
  (first |(apply HK.out;(repeat(first |exact h|apply Below.drew));done)|(apply HS.out;apply aw;apply aw;apply Below.mono;(repeat(first |exact h|apply Below.drew));omega;exact Nat.le_refl _;exact Nat.le_refl _))
  (first
   |(go_at_call 204;apply Calls.mono;apply Z.out;(repeat(first |exact h|apply Below.drew));clear h;rintro e w' ⟨⟨s',a',n',c',rfl,hneg⟩,h⟩)
   |(go_at_call 125;apply Calls.mono;apply HA.out;exact hneg;(repeat(first |exact h|apply Below.drew));clear h hneg;rintro e w' ⟨⟨a3,c3,rfl,hfin⟩,h⟩;obtain⟨q0,q1,q2,q3,e0,e1,hf⟩:=hfin))
 go_wp2;refine bodyPost_ret (v:=Ω (decide (z<0)) a3 (rep z.natAbs).length c3) (by simp[results,results126,go_sem,e0,e1]) rfl ?_;exact⟨_,rfl,hf.out⟩
theorem vg{W X:World}{a b:Option Addr}{x y n m ca cb:Nat}(p:Lay .u32 W a (rep x))(q:Lay .u32 W b (rep y))(r:n=(rep x).length)(u:m=(rep y).length)(z:n<=1073741824)(A:m<=1073741824)(h:Below W W X)(v:Old.top<=W.heap.size):Calls prog 205 #[.slice a n ca,.slice b m cb] X fun e j=>(∃d k f,e= .returned (.slice d k f)/\Raw j d k f (x*y))/\Below W W j:=by
 refine(zG X a b (rep x) (rep y) n m ca cb (p.below h) (q.below h) (aB _) (aB _) r u ω ω).mono ?_;rw[aE,aE];rintro e j ⟨d,f,rfl,h2,h3,h6,h7⟩;exact⟨⟨d,_,f,rfl,rep (x*y),rfl,h2.mono (Nat.le_trans v h.size),by have:=h2.1;omega,aB _,aE _,h6⟩,h.trans (h7.mono h.size)⟩
theorem CU{x y:Int}:((decide (x<0) != decide (y<0))=true->x*y<=0)/\((decide (x<0) != decide (y<0))=false->0<=x*y):=by
 rcases Int.lt_or_le x 0 with hx|hx<;>rcases Int.lt_or_le y 0 with hy|hy
 ·have:0<=x*y:=Int.mul_nonneg_of_nonpos_of_nonpos ω ω;simp[hx,hy];omega
 ·have:x*y<=0:=Int.mul_nonpos_of_nonpos_of_nonneg ω hy;have a: ¬y<0:=ω
  simp[hx,a];omega
 ·have:x*y<=0:=Int.mul_nonpos_of_nonneg_of_nonpos hx ω;have a: ¬x<0:=ω
  simp[hy,a];omega
 ·have:0<=x*y:=Int.mul_nonneg hx hy;have a: ¬y<0:=ω
  have b: ¬x<0:=ω;simp[a,b];omega
theorem ri(w:World)(Z v2:Value)(x y:Int)(h1:ApiV w Z x)(h2:ApiV w v2 y)(lx:(rep x.natAbs).length<=1073741824)(ly:(rep y.natAbs).length<=1073741824)(ho:Old.top<=w.heap.size):Calls prog 127 #[Z,v2] w fun e w'=> ∃u,e= .returned u/\ApiV w' u (x*y)/\Below w w w':=by
 obtain⟨F,c1,rfl,G,H⟩:=h1;obtain⟨I,C,rfl,L,M⟩:=h2;obtain⟨N,f⟩: ∃n,n=(rep x.natAbs).length:=⟨_,rfl⟩;obtain⟨O,j⟩: ∃n,n=(rep y.natAbs).length:=⟨_,rfl⟩;obtain⟨P,p⟩: ∃s,s=decide (x<0):=⟨_,rfl⟩;obtain⟨Q,q⟩: ∃s,s=decide (y<0):=⟨_,rfl⟩;have d:=CU (x:=x) (y:=y);rw[<-p,<-q]at d;rw[<-f]at lx;rw[<-j]at ly;rw[<-p,<-q,<-f,<-j];obtain⟨R,S,T,B,U⟩:=fI w 24 (.bool P) (.slice F N c1) (.bool Q) (.slice I O C) (.bool false) (.slice none 0 0);obtain⟨W,r⟩:=ξ (((w.alloc (.cells #[.bool P,.slice F N c1] 24)).alloc (.cells #[.bool Q,.slice I O C] 24)).alloc (.cells #[.bool false,.slice none 0 0] 24));rw[<-r]at R S T B U;have D:=hid r;clear r;have k:x.natAbs*y.natAbs=(x*y).natAbs:=(Int.natAbs_mul x y).symm;obtain⟨z,V⟩:=ξ (x*y);rw[<-V]at k d ⊢;obtain⟨c0,c01⟩:=R.two;obtain⟨c10,c11⟩:=S.two;obtain⟨Y,hs⟩:=gx R S T;have E:=fun X (h:Below W.heap.size W X)=>vg (ca:=c1) (cb:=C) (H.below B) (M.below B) f j lx ly h (Nat.le_trans ho B.size)
 rw[k]at E;have HP:=hid E;clear E;have HM:=hid (fun X a n c (h1:Raw X a n c z.natAbs) (h:Below W.heap.size W X)=>iE T B ω d h1 h);have HK:=hid Y;clear Y;have HS:=hid hs;clear hs;clear f j p q V k d G L;have h:=Below.refl W.heap.size W;go_enter func127,ntmps127;go_wp2;rw[<-D.out]
 go_region_held3 (fun X=>(X.cell? ⟨w,0,none⟩=some (.bool P)/\X.cell? ⟨w,1,none⟩=some (.slice F N c1)/\X.cell? ⟨N1 w,0,none⟩=some (.bool Q)/\X.cell? ⟨N1 w,1,none⟩=some (.slice I O C)))
  (first |(apply HK.out;(repeat(first |exact h|apply Below.drew));done)|(apply HS.out;apply aw;apply aw;apply Below.mono;(repeat(first |exact h|apply Below.drew));omega;exact Nat.le_refl _;exact Nat.le_refl _))
  (first
   |(go_at_call 205;apply Calls.mono;apply HP.out;(repeat(first |exact h|apply Below.drew));clear h;rintro e w' ⟨⟨a',n',c',rfl,hraw⟩,h⟩)
   |(go_at_call 199;apply Calls.mono;apply HM.out;exact hraw;(repeat(first |exact h|apply Below.drew));clear h hraw;rintro e w' ⟨⟨a3,c3,rfl,hfin⟩,h⟩;obtain⟨q0,q1,q2,q3,e0,e1,hf⟩:=hfin))
 go_wp2;refine bodyPost_ret (v:=Ω (decide (z<0)) a3 (rep z.natAbs).length c3) (by simp[results,results127,go_sem,e0,e1]) rfl ?_;exact⟨_,rfl,hf.out⟩
end Go.Proofs.YtfefijlnbhbplaaGreatDoor
namespace Go.Proofs.YtfefijlnbhbplaaGreatDoor
open Go Lib Go.RowKit Limb Tryz
set_option linter.unusedSectionVars false
variable [Old]
theorem wi{V:World}{g:Nat}{t:TypeId}{b c d e:Value}(j:Row V g t [b,c])(k:Row V (g+1) t [d,e])(l:g+1+1<=V.heap.size):(∀X,Below V V X->X.cell? ⟨g,0,none⟩=some b/\X.cell? ⟨g,1,none⟩=some c/\X.cell? ⟨g+1,0,none⟩=some d/\X.cell? ⟨g+1,1,none⟩=some e)/\(∀X,Below (g+1+1) V X->X.cell? ⟨g,0,none⟩=some b/\X.cell? ⟨g,1,none⟩=some c/\X.cell? ⟨g+1,0,none⟩=some d/\X.cell? ⟨g+1,1,none⟩=some e):=by
 have a: ∀X,Below (g+1+1) V X->X.cell? ⟨g,0,none⟩=some b/\X.cell? ⟨g,1,none⟩=some c/\X.cell? ⟨g+1,0,none⟩=some d/\X.cell? ⟨g+1,1,none⟩=some e:=fun X h=>by
  have f:=j.below h ω;have i:=k.below h ω;exact⟨f.ae 0,f.ae 1,i.ae 0,i.ae 1⟩
 exact⟨fun X h=>a X (h.mono l),a⟩
theorem xy{w X:World}{g d:Nat}(j k q u:Value){L v:Bool}{M z:Option Addr}{N O A B:Nat}(G:Row X g 24 [.bool L,.slice M N O])(P:Row X d 24 [.bool v,.slice z A B])(f:g≠d)(hX:Below w w X)(H:w.heap.size<=g)(D:w.heap.size<=d): ∃U,U=(((X.setCell ⟨g,0,none⟩ j).setCell ⟨g,1,none⟩ k).setCell ⟨d,0,none⟩ q).setCell ⟨d,1,none⟩ u/\U.cell? ⟨g,0,none⟩=some j/\U.cell? ⟨g,1,none⟩=some k/\U.cell? ⟨d,0,none⟩=some q/\U.cell? ⟨d,1,none⟩=some u/\Below w w U/\(∀x l,Lay .u32 X x l->Lay .u32 U x l):=by
 have m:Row ((X.setCell ⟨g,0,none⟩ j).setCell ⟨g,1,none⟩ k) d 24 [.bool v,.slice z A B]:=(P.other (by simpa using Ne.symm f) _).other (by simpa using Ne.symm f) _;refine⟨_,rfl,?_⟩;have E:Row ((((X.setCell ⟨g,0,none⟩ j).setCell ⟨g,1,none⟩ k).setCell ⟨d,0,none⟩ q).setCell ⟨d,1,none⟩ u) g 24 [j,k]:=(((G.af 0 j).af 1 k).other (by simpa using f) _).other (by simpa using f) _;have F:Row ((((X.setCell ⟨g,0,none⟩ j).setCell ⟨g,1,none⟩ k).setCell ⟨d,0,none⟩ q).setCell ⟨d,1,none⟩ u) d 24 [q,u]:=(m.af 0 _).af 1 _;exact⟨E.ae 0,E.ae 1,F.ae 0,F.ae 1,aw (aw (aw (aw hX H _) H _) D _) D _,fun x l I=>(I.pair G _ _).pair m _ _⟩
theorem ApiV.to{X U:World}{u:Value}{z:Int}(h:ApiV X u z)(e: ∀x l,Lay .u32 X x l->Lay .u32 U x l):ApiV U u z:=by
 obtain⟨a,c,h1,b,d⟩:=h;exact⟨a,c,h1,b,e _ _ d⟩
def C0(w w':World)(e:Ending)(q r:Int):Prop:=
 ∃b a n c d f g i,e=Rt #[Ω b a n c,Ω d f g i]/\ApiV w' (Ω b a n c) q/\ApiV w' (Ω d f g i) r/\Below w w w'
theorem mP{W X:World}{z:Int}{s:Bool}{a:Option Addr}{n c:Nat}(hs:(s=true->z<=0)/\(s=false->0<=z))(y:Raw X a n c z.natAbs)(h:Below W W X):Calls prog 199 #[.bool s,.slice a n c] X fun e j=>(∃d f,e= .returned (Ω (decide (z<0)) d (rep z.natAbs).length f)/\Hid (ApiV j (Ω (decide (z<0)) d (rep z.natAbs).length f) z/\Below X X j))/\Below W W j:=by
 obtain⟨zs,h1,p,q,r,v,x⟩:=y;refine(dQ X s a zs n c z x r h1 q p v hs).mono ?_;rintro e j ⟨u,rfl,hu,hb⟩;have k:=h.trans (hb.mono h.size);obtain⟨d,f,rfl,_⟩:=id hu;exact⟨⟨d,f,rfl,hid ⟨hu,hb⟩⟩,k⟩
theorem Raw.below{X b:World}{a:Option Addr}{n c N:Nat}(h:Raw X a n c N)(j:Below X X b):Raw b a n c N:=by
 obtain⟨zs,h1,d,e,f,g,i⟩:=h;exact⟨zs,h1,d,e,f,g,i.below j⟩
theorem BH{x y:Int}:((decide (x<0) != decide (y<0))=true->x.tdiv y<=0)/\((decide (x<0) != decide (y<0))=false->0<=x.tdiv y):=by
 have d: ∀a b:Int,0<=a->0<=b->0<=a.tdiv b:=fun a b f g=>Int.tdiv_nonneg f g
 rcases Int.lt_or_le x 0 with hx|hx<;>rcases Int.lt_or_le y 0 with hy|hy
 ·have:=d (-x) (-y) ω ω;rw[Int.neg_tdiv,Int.tdiv_neg,Int.neg_neg]at this;simp[hx,hy];omega
 ·have:=d (-x) y ω hy;rw[Int.neg_tdiv]at this;have c: ¬y<0:=ω
  simp[hx,c];omega
 ·have:=d x (-y) hx ω;rw[Int.tdiv_neg]at this;have c: ¬x<0:=ω
  simp[hy,c];omega
 ·have:=d x y hx hy;have c: ¬y<0:=ω
  have e: ¬x<0:=ω;simp[c,e];omega
theorem CI{x y:Int}:(decide (x<0)=true->x.tmod y<=0)/\(decide (x<0)=false->0<=x.tmod y):=by
 constructor
 ·intro h;have h:=of_decide_eq_true h;have:=Int.tmod_nonneg y (a:= -x) ω;rw[Int.neg_tmod]at this;omega
 ·intro h;have h:=of_decide_eq_false h;exact Int.tmod_nonneg y ω
theorem xq(w:World)(v1 v2:Value)(x y:Int)(h1:ApiV w v1 x)(h2:ApiV w v2 y)(lx:(rep x.natAbs).length<=1073741824)(ly:(rep y.natAbs).length<=1073741824)(hy:y≠0)(ho:Old.top<=w.heap.size):Calls prog 129 #[v1,v2] w fun e w'=>C0 w w' e (x.tdiv y) (x.tmod y):=by
 obtain⟨a1,c1,rfl,hc1,hl1⟩:=h1;obtain⟨a2,c2,rfl,hc2,hl2⟩:=h2;obtain⟨n1,p⟩: ∃n,n=(rep x.natAbs).length:=⟨_,rfl⟩;obtain⟨n2,u⟩: ∃n,n=(rep y.natAbs).length:=⟨_,rfl⟩;obtain⟨Q,B⟩: ∃s,s=decide (x<0):=⟨_,rfl⟩;obtain⟨s2,D⟩: ∃s,s=decide (y<0):=⟨_,rfl⟩;have O:=BH (x:=x) (y:=y);have P:=CI (x:=x) (y:=y);rw[<-B,<-D]at O;rw[<-B]at P;rw[<-p]at lx;rw[<-u]at ly;rw[<-B,<-D,<-p,<-u];obtain⟨W,G,r0,r1,r2,r3,R,hsz⟩:=qG w 24 (.bool Q) (.slice a1 n1 c1) (.bool s2) (.slice a2 n2 c2) (.bool false) (.slice none 0 0) (.bool false) (.slice none 0 0);have S:=hid G;clear G;have T:=qD W a1 a2 x.natAbs y.natAbs n1 n2 c1 c2 (hl1.below R) (hl2.below R) p u lx ly ω (Nat.le_trans ho R.size);rw[show x.natAbs/y.natAbs=(x.tdiv y).natAbs from(Int.natAbs_tdiv x y).symm,show x.natAbs%y.natAbs=(x.tmod y).natAbs from(Int.natAbs_tmod x y).symm]at T;have Y:=hid T;clear T;obtain⟨q,E⟩:=ξ (x.tdiv y);obtain⟨r,F⟩:=ξ (x.tmod y);have lq:(rep q.natAbs).length<=1073741824:=by rw[E,Int.natAbs_tdiv];exact Nat.le_trans (aS (Nat.div_le_self _ _)) ω
 have lr:(rep r.natAbs).length<=1073741824:=by rw[F,Int.natAbs_tmod];exact Nat.le_trans (aS (Nat.mod_le _ _)) ω
 rw[<-E]at Y O ⊢;rw[<-F]at Y P ⊢;have Hq:=hid O;clear O;have Hr:=hid P;clear P;obtain⟨c0,H⟩:=r0.two;obtain⟨I,L⟩:=r1.two;clear p u B D E F hy hc1 hc2 ho;go_enter func129,ntmps129;go_wp2_with fail;rw[<-S.out];refine Y.out.mono ?_;rintro e V ⟨aq,nq,cq,ar,nr,cr,rfl,hnq,hnr,hcq,hcr,hlq,hlr,hb⟩;have rq:Raw V aq nq cq q.natAbs:=⟨rep q.natAbs,hnq,hcq,ω,aB _,aE _,hlq⟩;have rr:Raw V ar nr cr r.natAbs:=⟨rep r.natAbs,hnr,hcr,ω,aB _,aE _,hlr⟩;clear hnq hnr hlq hlr hcq hcr c0 H I L;have Z:Below w w V:=τ R hb;have p0:=r0.below hb r0.lt;have p1:=r1.below hb r1.lt;have j:=r2.below hb r2.lt;have k:=r3.below hb r3.lt;have hszV:=hb.size;obtain⟨c0,H⟩:=p0.two;obtain⟨I,L⟩:=p1.two;obtain⟨hk,hs⟩:=wi p0 p1 ω;have HK:=hid hk;clear hk;have HS:=hid hs;clear hs
 have hm: ∀X z s a n c,((a=aq/\n=nq/\c=cq/\z=q/\s=(Q != s2))∨(a=ar/\n=nr/\c=cr/\z=r/\s=Q))->Below V V X->
   Calls prog 199 #[.bool s,.slice a n c] X fun e X'=>(∃M N,e= .returned (Ω (decide (z<0)) M (rep z.natAbs).length N)/\Hid (ApiV X' (Ω (decide (z<0)) M (rep z.natAbs).length N) z/\Below X.heap.size X X'))/\Below V V X':=by
  rintro X z s a n c (⟨rfl,rfl,rfl,rfl,rfl⟩|⟨rfl,rfl,rfl,rfl,rfl⟩) h
  ·exact mP Hq.out (rq.below h) h
  ·exact mP Hr.out (rr.below h) h
 have HM:=hid hm;clear hm;clear rq rr
 have C:=fun X (h:Below V V X)=>show X.cell? ⟨N2 w,0,none⟩=some (.bool false)/\X.cell? ⟨N2 w,1,none⟩=some (.slice none 0 0)/\X.frozen? ⟨N2 w,0,none⟩=false/\X.frozen? ⟨N2 w,1,none⟩=false/\
   X.cell? ⟨w.heap.size+1+1+1,0,none⟩=some (.bool false)/\X.cell? ⟨w.heap.size+1+1+1,1,none⟩=some (.slice none 0 0)/\X.frozen? ⟨w.heap.size+1+1+1,0,none⟩=false/\X.frozen? ⟨w.heap.size+1+1+1,1,none⟩=false from
  ⟨(j.below h j.lt).ae 0,(j.below h j.lt).ae 1,(j.below h j.lt).free 0,(j.below h j.lt).free 1,(k.below h k.lt).ae 0,(k.below h k.lt).ae 1,(k.below h k.lt).free 0,(k.below h k.lt).free 1⟩
 have HF:=hid C;clear C;have h:=Below.refl V V;go_wp2_with fail
 go_region_held3 (fun X=>(X.cell? ⟨w,0,none⟩=some (.bool Q)/\X.cell? ⟨w,1,none⟩=some (.slice a1 n1 c1)/\X.cell? ⟨N1 w,0,none⟩=some (.bool s2)/\X.cell? ⟨N1 w,1,none⟩=some (.slice a2 n2 c2)))
  (first |(apply HK.out;(repeat(first |exact h|apply Below.drew));done)|(apply HS.out;(repeat(refine aw ?_ ω _));apply Below.mono;(repeat(first |exact h|apply Below.drew));omega))
  (first
   |(go_at_call 199;apply Calls.mono;apply HM.out;exact .inl ⟨rfl,rfl,rfl,rfl,rfl⟩;(repeat(first |exact h|apply Below.drew));clear h;rintro e w' ⟨⟨M,N,rfl,hfq⟩,h⟩)
   |(go_at_call 199;apply Calls.mono;apply HM.out;exact .inr ⟨rfl,rfl,rfl,rfl,rfl⟩;(repeat(first |exact h|apply Below.drew));clear h;rintro e w' ⟨⟨a4,c4,rfl,hfr⟩,h⟩;obtain⟨m0,m1,m2,m3,m4,m5,m6,m7⟩:=HF.out _ h))
 have a0:=τ Z h;obtain⟨U,hU,f0,f1,f2,f3,hBU,d⟩:=xy (.bool (decide (q<0))) (.slice M (rep q.natAbs).length N) (.bool (decide (r<0))) (.slice a4 (rep r.natAbs).length c4) (j.below h j.lt) (k.below h k.lt) ω a0 ω ω;have HU:=hid hU;clear hU;have HQ:=hid (ApiV.to (hfq.out.1.below hfr.out.2) d);have HR:=hid (ApiV.to hfr.out.1 d);clear hfq hfr d;go_wp2;(try simp only[Exit.inBlock,Exit.then]);rw[<-HU.out];refine bodyPost_ret (v:= .tuple #[Ω (decide (q<0)) M (rep q.natAbs).length N,Ω (decide (r<0)) a4 (rep r.natAbs).length c4]) (by simp[results,results129,go_sem,f0,f1,f2,f3]) rfl ?_;exact⟨_,_,_,_,_,_,_,_,rfl,HQ.out,HR.out,hBU⟩
end Go.Proofs.YtfefijlnbhbplaaGreatDoor
namespace Go.Proofs.YtfefijlnbhbplaaGreatDoor
open Go Lib Go.RowKit Limb Tryz
set_option linter.unusedSectionVars false
variable [Old]
theorem ApiV.parts{V:World}{b:Bool}{a:Option Addr}{n c:Nat}{z:Int}(h:ApiV V (Ω b a n c) z):b=decide (z<0)/\n=(rep z.natAbs).length/\n<=c/\Lay .u32 V a (rep z.natAbs):=by
 obtain⟨i,j,e,d,f⟩:=h;simp only[Value.agg.injEq,List.toArray_inj,List.cons.injEq,Array.mk.injEq,Value.bool.injEq,Value.slice.injEq,and_true]at e;obtain⟨rfl,rfl,rfl,rfl⟩:=e;exact⟨rfl,rfl,d.1,f⟩
theorem qV{X U:World}{g a h:Nat}{t:TypeId}{b:List Value}{d f i j:Value}(k:U=(((X.setCell ⟨g,0,none⟩ d).setCell ⟨g,1,none⟩ f).setCell ⟨a,0,none⟩ i).setCell ⟨a,1,none⟩ j)(m:Row X h t b)(h1:h≠g)(c:h≠a):Row U h t b:=by
 rw[k];exact(((m.other (by exact h1) _).other (by exact h1) _).other (by exact c) _).other (by exact c) _
def Six(k g:Nat)(a:Bool)(d:Option Addr)(f j:Nat)(m:Bool)(n:Option Addr)(p q:Nat)(r:Bool)(t:Option Addr)(u v:Nat)(X:World):Prop:=
 X.cell? ⟨k,0,none⟩=some (.bool a)/\X.cell? ⟨k,1,none⟩=some (.slice d f j)/\X.cell? ⟨k+1,0,none⟩=some (.bool m)/\X.cell? ⟨k+1,1,none⟩=some (.slice n p q)/\X.cell? ⟨g,0,none⟩=some (.bool r)/\X.cell? ⟨g,1,none⟩=some (.slice t u v)
theorem yf(w:World)(v1 v2:Value)(x y:Int)(h1:ApiV w v1 x)(h2:ApiV w v2 y)(lx:(rep x.natAbs).length<=1048576)(ly:(rep y.natAbs).length<=1048576)(hy:y≠0)(ho:Old.top<=w.heap.size):Calls prog 128 #[v1,v2] w fun e w'=>C0 w w' e (x.fdiv y) (x.fmod y):=by
 have h1':=h1;have h2':=h2;obtain⟨a1,c1,rfl,-,hl1⟩:=h1;obtain⟨a2,c2,rfl,-,hl2⟩:=h2;obtain⟨n1,hn1⟩: ∃n,n=(rep x.natAbs).length:=⟨_,rfl⟩;obtain⟨n2,hn2⟩: ∃n,n=(rep y.natAbs).length:=⟨_,rfl⟩;obtain⟨s1,hs1⟩: ∃s,s=decide (x<0):=⟨_,rfl⟩;obtain⟨s2,hs2⟩: ∃s,s=decide (y<0):=⟨_,rfl⟩;rw[<-hs1,<-hn1]at h1' ⊢;rw[<-hs2,<-hn2]at h2' ⊢;obtain⟨W,hWe,r0,r1,r2,r3,hW,hsz⟩:=qG w 24 (.bool s1) (.slice a1 n1 c1) (.bool s2) (.slice a2 n2 c2) (.bool false) (.slice none 0 0) (.bool false) (.slice none 0 0);have HWe:=hid hWe;clear hWe;have hQ:=xq W _ _ x y (h1'.below hW) (h2'.below hW) ω ω hy (Nat.le_trans ho hW.size);have HO0:=hid ho;clear ho;obtain⟨q,hqv⟩:=ξ (x.tdiv y);obtain⟨r,hrv⟩:=ξ (x.tmod y);have lq:(rep q.natAbs).length<=1048576:=by rw[hqv,Int.natAbs_tdiv];exact Nat.le_trans (aS (Nat.div_le_self _ _)) ω
 have lr:(rep r.natAbs).length<=1048576:=by rw[hrv,Int.natAbs_tmod];exact Nat.le_trans (aS (Nat.mod_le _ _)) ω
 rw[<-hqv,<-hrv]at hQ;have HQ:=hid hQ;clear hQ;obtain⟨c0,c01⟩:=r0.two;obtain⟨c10,c11⟩:=r1.two;have Hn1:=hid hn1;clear hn1;have Hn2:=hid hn2;clear hn2;have Hs1:=hid hs1;clear hs1;have Hs2:=hid hs2;clear hs2;have Hqv:=hid hqv;clear hqv;have Hrv:=hid hrv;clear hrv;go_enter func128,ntmps128;go_wp2_with fail;rw[<-HWe.out];refine HQ.out.mono ?_;rintro e V ⟨bq,aq,nq,cq,br,ar,nr,cr,rfl,huq,hur,H⟩;clear c0 c01 c10 c11;have hWV:Below w.heap.size w V:=τ hW H;have hszV:=H.size;obtain⟨eb1,en1,hcq,hlq⟩:=huq.parts;obtain⟨E,F,hcr,hlr⟩:=hur.parts;obtain⟨k,hk⟩:=ξ V.heap.size;obtain⟨U,hU⟩:=ξ ((V.alloc (.cells #[.bool bq,.slice aq nq cq] 24)).alloc (.cells #[.bool br,.slice ar nr cr] 24));have B:Below V V U:=by rw[hU];exact((Below.refl _ _).alloc ι _).alloc (by rw[World.size_alloc];omega) _
 have N:Below w.heap.size w U:=τ hWV B;have HO:=hid (Nat.le_trans HO0.out N.size);have O:=H.trans (B.mono H.size);have u0:=r0.below O r0.lt;have u1:=r1.below O r1.lt;have P:=r2.below O r2.lt;have Q:=r3.below O r3.lt;have L:Row U k 24 [.bool bq,.slice aq nq cq]:=by rw[hU,hk];apply Row.alloc;unfold Row;exact heap_alloc_new _ _
 have M:Row U (k+1) 24 [.bool br,.slice ar nr cr]:=by
  have h:=heap_alloc_new (V.alloc (.cells #[.bool bq,.slice aq nq cq] 24)) (.cells #[.bool br,.slice ar nr cr] 24);rw[World.size_alloc,<-hk]at h;rw[hU];exact h
 have hk4:w.heap.size+1+1+1<k:=ω
 have HU:=hid hU;clear hU;have Hk:=hid hk;clear hk;obtain⟨k10,k11⟩:=u1.two;obtain⟨k60,k61⟩:=L.two;obtain⟨k70,k71⟩:=M.two;obtain⟨k40,k41⟩:=P.two;obtain⟨k50,k51⟩:=Q.two;have f40:=P.free 0;have f41:=P.free 1;have f50:=Q.free 0;have f51:=Q.free 1;have k10':=k10;rw[HU.out]at k10';have m46:w.heap.size+1+1≠k:=ω
 have m47:w.heap.size+1+1≠k+1:=ω
 have m56:w.heap.size+1+1+1≠k:=ω
 have m57:w.heap.size+1+1+1≠k+1:=ω
 have m64:k≠w.heap.size+1+1:=ω
 have m74:k+1≠w.heap.size+1+1:=ω
 have m65:k≠w.heap.size+1+1+1:=ω
 have m75:k+1≠w.heap.size+1+1+1:=ω
 obtain⟨z,A⟩:=jv (x:=x) hy;rw[<-Hrv.out,<-Hqv.out]at z A;by_cases p:r≠0/\br≠s2
 ·obtain⟨D,G⟩:=p;have hd:Hid (x.fdiv y=q-1/\x.fmod y=r+y):=hid (z (by rw[Ne,sgnI_zero];exact D) (by rw[Ne,rF];rw[E,Hs2.out,Ne,decide_eq_decide]at G;exact fun h=>G h.1));have d1:decide (0<nr)=true:=(by rw[decide_eq_true_eq,F];have:=rep_length_zero (n:=r.natAbs);omega);have C:(br != s2)=true:=by rw[bne_iff_ne];exact G
  have hbs2:(br==s2)=false:=(by rw[beq_eq_false_iff_ne];exact G);have huqU:=huq.below B;have hurU:=hur.below B;have huyU:=h2'.below N
  have HOf:=hid (fun X (h:Below U.heap.size U X)=>(sa X 1 δ δ (Nat.le_trans HO.out h.size)).mono fun e X' he=>show(∃b a n c,e= .returned (Ω b a n c)/\ApiV X' (Ω b a n c) 1)/\Below U.heap.size U X' from by
   obtain⟨u,rfl,hu,H⟩:=he;obtain⟨a,c,rfl,_⟩:=id hu;exact⟨⟨_,_,_,_,rfl,hu⟩,h.trans (H.mono h.size)⟩)
  have HSu:=hid (fun X b a n c (hv:ApiV X (Ω b a n c) 1) (h:Below U.heap.size U X)=>(xO X _ _ q 1 (huqU.below h) hv ω δ (Nat.le_trans HO.out h.size)).mono fun e X' he=>show(∃b a n c,e= .returned (Ω b a n c)/\ApiV X' (Ω b a n c) (q-1))/\Below U.heap.size U X' from by
   obtain⟨u,rfl,hu,H⟩:=he;obtain⟨a,c,rfl,_⟩:=id hu;exact⟨⟨_,_,_,_,rfl,hu⟩,h.trans (H.mono h.size)⟩)
  have HAd:=hid (fun X (h:Below U.heap.size U X)=>(sD X _ _ r y (hurU.below h) (huyU.below h) ω ω (Nat.le_trans HO.out h.size)).mono fun e X' he=>show(∃b a n c,e= .returned (Ω b a n c)/\Hid (ApiV X' (Ω b a n c) (r+y)/\Below X.heap.size X X'))/\Below U.heap.size U X' from by
   obtain⟨u,rfl,hu,H⟩:=he;obtain⟨a,c,rfl,_⟩:=id hu;exact⟨⟨_,_,_,_,rfl,hid ⟨hu,H⟩⟩,h.trans (H.mono h.size)⟩)
  have hsix:=fun X (h:Below U.heap.size U X)=>show Six k (N1 w) bq aq nq cq br ar nr cr s2 a2 n2 c2 X from
   ⟨(L.below h L.lt).ae 0,(L.below h L.lt).ae 1,(M.below h M.lt).ae 0,(M.below h M.lt).ae 1,(u1.below h u1.lt).ae 0,(u1.below h u1.lt).ae 1⟩
  have H6:=hid hsix;clear hsix;have h0:Below U.heap.size U U.drew:=(Below.refl _ _).drew;have hS:=H6.out _ h0;clear z A huq hur eb1 en1 E F D G huqU hurU huyU;go_wp2_with fail;rw[<-HU.out,<-Hk.out];refine gN (n:=6) (S:=Six k (N1 w) bq aq nq cq br ar nr cr s2 a2 n2 c2) κ δ (fun j=>?_);refine tkS 0 (Ω bq aq nq cq) j (fun j=>?_) (y:=fun w hS=>by obtain⟨h0,h1,h2,h3,h4,h5⟩:=hS;go_simp);refine tkS 3 (Ω br ar nr cr) j (fun j=>?_) (y:=fun w hS=>by obtain⟨h0,h1,h2,h3,h4,h5⟩:=hS;go_simp);refine tkS 4 (Ω s2 a2 n2 c2) j (fun j=>?_) (y:=fun w hS=>by obtain⟨h0,h1,h2,h3,h4,h5⟩:=hS;go_simp);refine cL (i:=1) j δ κ (fun j=>?_);unfold wpOp;go_simp;refine .inl ((HOf.out _ h0).mono ?_);rintro e X1 ⟨⟨b1,b2,b3,b4,rfl,hone⟩,hX1⟩;refine⟨H6.out _ hX1,?_⟩;refine cL (i:=2) j δ κ (fun j=>?_);unfold wpOp;go_simp;refine .inl ((HSu.out _ _ _ _ _ hone hX1).mono ?_);rintro e X2 ⟨⟨q1,q2,q3,q4,rfl,hq⟩,hX2⟩;clear hone;refine⟨H6.out _ hX2,?_⟩;refine cL (i:=5) j δ κ (fun j=>?_);unfold wpOp;go_simp;refine .inl ((HAd.out _ hX2).mono ?_);rintro e X3 ⟨⟨t1,t2,t3,t4,rfl,ht⟩,hX3⟩;refine⟨H6.out _ hX3,?_⟩;refine gI δ ?_;have hWX:=τ N hX3;have x2:=P.below hX3 P.lt;have x3:=Q.below hX3 Q.lt;have x6:=L.below hX3 L.lt;have x7:=M.below hX3 M.lt;obtain⟨Y,hY,y0,y1,y2,y3,hBY,hlY⟩:=xy (.bool q1) (.slice q2 q3 q4) (.bool t1) (.slice t2 t3 t4) x6 x7 ω hWX ω ω;have z2:=qV hY x2 m46 m47;have z3:=qV hY x3 m56 m57;obtain⟨U',I,f0,f1,f2,f3,hBU,f⟩:=xy (.bool q1) (.slice q2 q3 q4) (.bool t1) (.slice t2 t3 t4) z2 z3 ω hBY ω ω;have R:=hid I;clear I;have T:=hid (ApiV.to (ApiV.to (hq.below ht.out.2) hlY) f);have Z:=hid (ApiV.to (ApiV.to ht.out.1 hlY) f);have HY:=hid hY;clear hY;clear k10 k11 k60 k61 k70 k71 k40 k41 k50 k51 f40 f41 f50 f51 hlY f hq ht;obtain⟨k60,k61⟩:=x6.two;obtain⟨k70,k71⟩:=x7.two;have f60:=x6.free 0;have f61:=x6.free 1;have f70:=x7.free 0;have f71:=x7.free 1;obtain⟨k40,k41⟩:=z2.two;obtain⟨k50,k51⟩:=z3.two;have f40:=z2.free 0;have f41:=z2.free 1;have f50:=z3.free 0;have f51:=z3.free 1;clear u0 u1 P Q L M x2 x3 x6 x7 z2 z3;refine eh (i:=6) κ ?_;unfold wpOp;go_simp;refine .inl (eh (i:=7) κ ?_);unfold wpOp;go_simp;refine .inl (wpAny_done κ ?_ _);rw[<-HY.out];clear k60 k61 k70 k71 f60 f61 f70 f71;go_wp2_with fail;go_region
  all_goals
   go_wp2;(try simp only[Exit.inBlock,Exit.then]);rw[<-R.out];refine bodyPost_ret (v:= .tuple #[Ω q1 q2 q3 q4,Ω t1 t2 t3 t4]) (by simp[results,results128,go_sem,f0,f1,f2,f3]) rfl ?_;rw[hd.out.1,hd.out.2];exact⟨_,_,_,_,_,_,_,_,rfl,T.out,Z.out,hBU.drew⟩
 ·have hd:Hid (x.fdiv y=q/\x.fmod y=r):=hid (A (by
   rw[sgnI_zero,rF];by_cases D:r=0
   ·exact .inl D
   ·right
    have C:br=s2:=by
     refine Classical.byContradiction (fun h=>p ⟨D,h⟩)
    rw[E,Hs2.out,decide_eq_decide]at C;exact⟨C,ω⟩))
  obtain⟨U',I,f0,f1,f2,f3,hBU,f⟩:=xy (.bool bq) (.slice aq nq cq) (.bool br) (.slice ar nr cr) P Q ω N ω ω;have R:=hid I;clear I;have T:=hid (ApiV.to (huq.below B) f);have Z:=hid (ApiV.to (hur.below B) f);by_cases hn0:nr=0
  ·have d1:decide (0<nr)=false:=(by rw[decide_eq_false_iff_not];omega);clear z A f huq hur hn0 eb1 en1 E F p u0 u1 P Q L M;go_wp2_with fail;rw[<-HU.out,<-Hk.out];go_region
   all_goals
    go_wp2;(try simp only[Exit.inBlock,Exit.then]);rw[<-R.out];refine bodyPost_ret (v:= .tuple #[Ω bq aq nq cq,Ω br ar nr cr]) (by simp[results,results128,go_sem,f0,f1,f2,f3]) rfl ?_;rw[hd.out.1,hd.out.2];exact⟨_,_,_,_,_,_,_,_,rfl,T.out,Z.out,hBU.drew⟩
  ·have d1:decide (0<nr)=true:=by rw[decide_eq_true_eq];omega
   have C:br=s2:=by
    refine Classical.byContradiction (fun h=>p ⟨fun e=>hn0 (by rw[F,e];rfl),h⟩)
   subst C;clear z A f huq hur hn0 eb1 en1 E F p u0 u1 P Q L M;go_wp2_with fail;rw[<-HU.out,<-Hk.out];go_region
   all_goals
    go_wp2;(try simp only[Exit.inBlock,Exit.then]);rw[<-R.out];refine bodyPost_ret (v:= .tuple #[Ω bq aq nq cq,Ω br ar nr cr]) (by simp[results,results128,go_sem,f0,f1,f2,f3]) rfl ?_;rw[hd.out.1,hd.out.2];exact⟨_,_,_,_,_,_,_,_,rfl,T.out,Z.out,hBU.drew⟩
end Go.Proofs.YtfefijlnbhbplaaGreatDoor
namespace Go.Proofs.YtfefijlnbhbplaaGreatDoor
open Go Lib Go.RowKit Limb
theorem ApiV.open[Old]{w:World}{u:Value}{z:Int}(h:ApiV w u z): ∃b a n c,u= .agg #[.bool b,.slice a n c]/\Hid (b=decide (z<0)/\n=(rep z.natAbs).length/\n<=c/\Lay .u32 w a (rep z.natAbs)):=by
 obtain⟨a,c,e,h1,d⟩:=h;exact⟨_,a,_,c,e,hid ⟨rfl,rfl,h1.1,d⟩⟩
def Came(w:World)(b:Bool)(a:Option Addr)(n:Nat)(l:List Nat):Prop:=Lay .u32 w a l/\Lim l/\n=l.length/\n<=9223372036854775807
theorem Came.below{w w':World}{b:Bool}{a:Option Addr}{n:Nat}{l:List Nat}(h:Came w b a n l)(c:Below w w w'):Came w' b a n l:=⟨h.1.below c,h.2⟩
theorem iM(z:Int):signed (decide (z<0)) (val (rep z.natAbs))=z:=by
 rw[aE];unfold signed;by_cases h:z<0
 ·simp[h];omega
 ·simp[h];omega
theorem iq{z:Int}(h:(rep z.natAbs).length<=1024):bn (decide (z<0)) (rep z.natAbs)=true:=by
 rw[tc,decide_eq_true h]
theorem Came.api[Old]{w:World}{b:Bool}{a:Option Addr}{n c:Nat}{l:List Nat}(h:Came w b a n l)(i:bn b l=true)(j:CapB Old.top a n c):ApiV w (Ω b a n c) (signed b (val l)):=by
 obtain⟨h1,f,e,k⟩:=h;obtain⟨d,g,m⟩:=bQ f i;refine⟨a,c,?_,?_,?_⟩
 ·rw[<-d,<-g,e]
 ·rw[<-d,<-e];exact j
 ·rw[<-d];exact h1
theorem Came.len{w:World}{b:Bool}{a:Option Addr}{n:Nat}{l:List Nat}(h:Came w b a n l)(f:bn b l=true):(rep (signed b (val l)).natAbs).length<=1024:=by
 obtain⟨c,i,d⟩:=bQ h.2.1 f;rw[<-c];exact d
theorem Answer.ok[Old]{w w':World}{e:Ending}{z:Int}(h:Answer true w w' e z)(p:(rep z.natAbs).length<=1024)(o:Old.top<=w.heap.size): ∃b a n c,e=Rt #[Ω b a n c,I 0]/\Hid (ApiV w' (Ω b a n c) z)/\Below w w w':=by
 have h:kt w w' e z:=h;obtain⟨f,⟨h1,d⟩|⟨h1,v,d,a,n,cap,i,j,k,m⟩⟩:=h
 ·omega
 ·subst i;subst j;exact⟨_,_,_,_,d,hid ⟨a,cap,rfl,k.mono o,m⟩,f⟩
theorem DivAnswer.ok[Old]{fl:Bool}{w w':World}{e:Ending}{x y:Int}(h:DivAnswer true fl w w' e x y)(u:y≠0)(j:Old.top<=w.heap.size): ∃b a n c d f g i,e=Rt #[Ω b a n c,Ω d f g i,I 0]/\Hid (ApiV w' (Ω b a n c) (fb fl x y)/\ApiV w' (Ω d f g i) (fE fl x y))/\Below w w w':=by
 unfold DivAnswer at h;rw[if_neg δ,if_neg u]at h;obtain⟨k,l,m,o,p,h1,q,r,s,t⟩:=h;exact⟨_,_,_,_,_,_,_,_,h1,hid ⟨⟨l,m,rfl,q.mono j,s⟩,⟨o,p,rfl,r.mono j,t⟩⟩,k⟩
theorem DivAnswer.zero{fl:Bool}{w w':World}{e:Ending}{x y:Int}(h:DivAnswer true fl w w' e x y)(a:y=0):e=Rt #[Ω false none 0 0,Ω false none 0 0,I 90]/\Below w w w':=by
 unfold DivAnswer at h;rw[if_neg δ,if_pos a]at h;exact⟨h.2,h.1⟩
def BL(b:Nat):Nat->Nat->List Nat
 |0,_=>[]
 |f+1,n=>if n=0 then[]else n%b :: BL b f (n/b)
theorem qU{b:Nat}(c:2<=b): ∀(f n:Nat),n<2^f->dL b n=BL b f n
 |0,n,h=>by rw[Nat.pow_zero]at h;rw[(ω:n=0),fa];rfl
 |f+1,n,h=>by
  unfold BL;by_cases a:n=0
  ·rw[if_pos a,a,fa]
  ·rw[if_neg a,eJ c ω,qU c f (n/b)];rw[Nat.pow_succ]at h;have h1:n/b<=n/2:=Nat.div_le_div_left c δ;omega
theorem wC:oO 10 ((2:Int)^100)=[49,50,54,55,54,53,48,54,48,48,50,50,56,50,50,57,52,48,49,52,57,54,55,48,51,50,48,53,51,55,54]:=by
 unfold oO k7 txt;rw[qU δ 128 _ δ];decide
end Go.Proofs.YtfefijlnbhbplaaGreatDoor
namespace Go.Proofs.YtfefijlnbhbplaaGreatDoor.Limb
def iD(d:Nat):Nat:=if d<10 then 48+d else 55+d
structure Put (b d:Nat) (m:List Nat) (k:Nat) (cur:List Nat) (c:Nat):Prop where
 len:cur.length=m.length
 rest: ∀i,k<=i->wd cur i=wd m i
 lim:Lim cur
 car:c<b
 eq:val (cur.take k)+W k*c=b*val (m.take k)+d
theorem Put.start{b d:Nat}{m:List Nat}(a:Lim m)(c:d<b):Put b d m 0 m d:=⟨rfl,fun _ _=>rfl,a,c,by simp[val,eS]⟩
theorem Fw{b c w:Nat}(a:w<4294967296)(d:c<b):(w*b+c)/4294967296<b:=by
 rw[Nat.div_lt_iff_lt_mul δ];have:w*b<=4294967295*b:=Nat.mul_le_mul_right b ω;omega
theorem Put.step{b d k c:Nat}{m a:List Nat}(h:Put b d m k a c)(j:Lim m)(l:k<m.length):Put b d m (k+1) (a.set k ((wd m k*b+c)%4294967296)) ((wd m k*b+c)/4294967296):=by
 have f:k<a.length:=by rw[h.len];exact l
 refine⟨by rw[List.length_set,h.len],fun i p=>?_,h.lim.set (Nat.mod_lt _ δ),Fw (j.wd k) h.car,?_⟩
 ·rw[cm f,if_neg ω];exact h.rest i ω
 ·rw[bK _ f,aN m k,bP];have e:=h.eq;have g:=Nat.div_add_mod (wd m k*b+c) 4294967296;generalize(wd m k*b+c)/4294967296=q at g ⊢;generalize(wd m k*b+c)%4294967296=r at g ⊢;generalize val (a.take k)=A at e ⊢;generalize val (m.take k)=M at e ⊢;generalize W k=w at e ⊢;generalize wd m k=x at g ⊢;have h1:w*(4294967296*q+r)=w*(x*b+c):=by rw[g]
  rw[Nat.mul_add,Nat.mul_add]at h1;rw[Nat.mul_add b];have n:4294967296*w*q=w*(4294967296*q):=by rw[Nat.mul_comm 4294967296 w,Nat.mul_assoc]
  have o:b*(w*x)=w*(x*b):=(by rw[Nat.mul_left_comm,Nat.mul_comm b x]);omega
theorem Put.done{b d V c:Nat}{a:List Nat}(o:1<=b)(h:Put b d (rep V) (rep V).length a c):(c=0->a=rep (V*b+d))/\(0<c->b<=4294967296->a++[c]=rep (V*b+d)):=by
 have e:=h.eq;rw[List.take_of_length_le (by rw[h.len];exact Nat.le_refl _),List.take_of_length_le ι,aE,Nat.mul_comm b]at e;refine⟨fun f=>?_,fun f k=>?_⟩
 ·rw[f,Nat.mul_zero,Nat.add_zero]at e;have h1:(rep V).length<=(rep (V*b+d)).length:=aS (by have:=Nat.mul_le_mul_left V o;omega);have i:rep (V*b+d)=a.take (rep (V*b+d)).length:=(by rw[<-e];exact rep_prefix h.lim);rw[i,List.take_of_length_le (by rw[h.len];exact h1)]
 ·have j:val (a++[c])=V*b+d:=(by rw[gY,h.len];exact e);rw[<-j];refine(fM (h.lim.append (Lim.cons (by have:=h.car;omega) Lim.nil)) ?_).symm;unfold fN;rw[List.getLast?_append];simp;omega
end Go.Proofs.YtfefijlnbhbplaaGreatDoor.Limb
namespace Go.Proofs.YtfefijlnbhbplaaGreatDoor
open Go Lib Go.RowKit Limb Tryz
def sV(b:Bool)(l:List Nat)(w w':World)(e:Ending):Prop:= ∃v ok,e=Rt #[I v,.bool ok]/\
 Hid ((bn b l=true->ok=ez (signed b (val l)))/\(ok=true->v=signed b (val l)))/\Below w w w'
theorem pp{l:List Nat}{k:Nat}(h:k<l.length):val (l.drop k)=wd l k+4294967296*val (l.drop (k+1)):=by
 rw[List.drop_eq_getElem_cons h,val,wd_lt h]
theorem ti{l:List Nat}(a:Lim l)(b:l.length<=2)(k:Nat):val (l.drop k)<18446744073709551616:=by
 have h:=cC (a.drop k);refine Nat.lt_of_lt_of_le h ?_;rw[show(18446744073709551616:Nat)=Limb.W 2 from by decide];exact mt (by rw[List.length_drop];omega)
theorem yn(w:World)(b:Bool)(a:Option Addr)(l:List Nat)(n cap:Nat)(hc:Came w b a n l):Calls prog 90 #[Ω b a n cap] w fun e w'=>sV b l w w' e:=by
 obtain⟨g,f,F,hm⟩:=hc;obtain⟨W,G,r0,I,S⟩: ∃W,W=w.alloc (.cells #[.bool b,.slice a n cap] 24)/\Row W w 24 [.bool b,.slice a n cap]/\Below w w W/\True:=⟨_,rfl,by unfold Row;exact heap_alloc_new _ _,(Below.refl _ _).alloc ι _,trivial⟩;have C:=hid G;clear G S;obtain⟨blk,off,A,d,_⟩:=(g.below I).use 22 25 underlying22 aK cap;rw[<-F]at A d;have X:=hid A;clear A;have Y:=hid d;clear d;obtain⟨c0,c1⟩:=r0.two;have M:=hid F;have p:=hid f;by_cases D:2<n
 ·have Z:decide (2<n)=true:=decide_eq_true D;have O:decide ((2:Int)<(n:Int))=true:=dT
  have q:=hid (show bn b l=true->ez (signed b (val l))=false from fun h=>by
   obtain⟨e1,_,_⟩:=bQ f h;exact tV (by rw[<-e1,<-F];exact D))
  clear D g F f;go_enter func90,ntmps90;go_wp2;rw[<-C.out];go_ret2;exact⟨0,false,rfl,hid ⟨fun h=>(q.out h).symm,fun h=>by cases h⟩,I⟩
 ·have Z:decide (2<n)=false:=decide_eq_false D;have O:decide ((2:Int)<(n:Int))=false:=dF;have P:n<=2:=ω
  clear D g F f;go_enter func90,ntmps90;go_wp2;rw[<-C.out];go_loop[4,5] (fun u i=> ∃(k x:Nat),k<=n/\i= .int .i64 ((k:Int)-1)/\u= .int .u64 x/\Hid (x=val (l.drop k))/\x<18446744073709551616) (fun _ i=>(intOf i+1).toNat);case atStart=>exact⟨n,0,Nat.le_refl _,rfl,rfl,hid (by rw[List.drop_of_length_le (by rw[<-M.out];exact Nat.le_refl _)];rfl),δ⟩
  case round=>
   obtain⟨k,x,hk,rfl,rfl,L,hx⟩:=hrel;by_cases E:k=0
   ·subst E;have H:=hid (show x=val l by have h:=L.out;rwa [List.drop_zero]at h);cases b with
    |true=>
     have q:=hid (show decide ((x:Int)<=9223372036854775808)=ez (signed true (val l)) by
      have h:=H.out;rw[Bool.eq_iff_iff,decide_eq_true_eq,dK,<-h];unfold signed;simp<;>omega)
     have r:=hid (show decide ((x:Int)<=9223372036854775808)=true->IntKind.i64.wrap (IntKind.u64.wrap (-(x:Int)))=signed true (val l)from fun h=>by
      rw[ye (by have:=of_decide_eq_true h;omega),<-H.out];rfl)
     obtain⟨ok,B⟩: ∃ok,decide ((x:Int)<=9223372036854775808)=ok:=⟨_,rfl⟩;obtain⟨v,T⟩: ∃v,IntKind.i64.wrap (IntKind.u64.wrap (-(x:Int)))=v:=⟨_,rfl⟩;rw[B]at q r;rw[T]at r;clear L;go_wp2;go_ret2;exact⟨v,ok,rfl,hid ⟨fun _=>q.out,r.out⟩,I⟩
    |false=>
     have q:=hid (show decide ((x:Int)<9223372036854775808)=ez (signed false (val l)) by
      have h:=H.out;rw[Bool.eq_iff_iff,decide_eq_true_eq,dK,<-h];unfold signed;simp<;>omega)
     have r:=hid (show decide ((x:Int)<9223372036854775808)=true->IntKind.i64.wrap (x:Int)=signed false (val l)from fun h=>by
      rw[xB (by have:=of_decide_eq_true h;omega),<-H.out];rfl)
     obtain⟨ok,B⟩: ∃ok,decide ((x:Int)<9223372036854775808)=ok:=⟨_,rfl⟩;obtain⟨v,T⟩: ∃v,IntKind.i64.wrap (x:Int)=v:=⟨_,rfl⟩;rw[B]at q r;rw[T]at r;clear L;go_wp2;go_ret2;exact⟨v,ok,rfl,hid ⟨fun _=>q.out,r.out⟩,I⟩
   ·obtain⟨j,rfl⟩: ∃j,k=j+1:=⟨k-1,ω⟩;have U:((j+1:Nat):Int)-1=(j:Int):=ω
    rw[U];have ix:=X.out W .i64 j ω ω;rw[Int.toNat_natCast]at ix;have cx:=Y.out W (Below.refl _ _) j ω;have Q:=p.out.wd j;have z:=pp (l:=l) (k:=j) (by rw[<-M.out];omega);have R:=ti p.out (by rw[<-M.out];exact P) j;rw[<-L.out]at z;obtain⟨y,V⟩:=ξ (wd l j);rw[<-V]at cx Q z;obtain⟨t,ht⟩:=ξ (x*4294967296);have eM:IntKind.u64.wrap ((x:Int)*4294967296)=(t:Int):=by rw[IntKind.wrap_u64];omega
    have eT:IntKind.u64.wrap ((t:Int)+(y:Int))=((t+y:Nat):Int):=(by rw[IntKind.wrap_u64];omega);have eM2:(x:Int)*4294967296=(t:Int):=ω
    have HN:=hid (show t+y=val (l.drop j) by omega);have tl:t+y<18446744073709551616:=ω
    clear U E z R V ht;go_wp2;go_round;case rel=>exact⟨j,t+y,ω,by go_num,by go_num,hid HN.out,tl⟩
    case measure=>simp[intOf]<;>omega
set_option linter.unusedSectionVars false
variable [Old]
theorem tj{q s:Nat}(hs:s<32):(List.replicate (q+1) 0).set q (2^s)=List.replicate q 0++[2^s]:=by
 rw[List.replicate_succ',List.set_append_right _ _ (by simp)];simp
theorem yP{q s:Nat}(hs:s<32):val ((List.replicate (q+1) 0).set q (2^s))=2^(32*q+s):=by
 rw[tj hs,eW,cH,List.length_replicate,dj,Nat.pow_add];simp[val]
theorem qE(w:World)(n:Nat)(hn:n<=1048576)(X:Old.top<=w.heap.size):Calls prog 208 #[I n] w fun e w'=> ∃u,e= .returned u/\ApiV w' u ((2:Int)^n)/\Below w w w':=by
 obtain⟨q,hq⟩:=ξ (n/32);obtain⟨s,hs⟩:=ξ (n%32);have R:(n:Int)/32=q:=ω
 have e2:(n:Int)%32=s:=ω
 have ql:q<=32768:=ω
 have S:s<32:=ω
 obtain⟨z,F⟩: ∃z:Int,z=(2:Int)^n:=⟨_,rfl⟩;have y:0<=z:=by rw[F];exact Int.pow_nonneg δ
 have H:val ((List.replicate (q+1) 0).set q (2^s))=z.natAbs:=by rw[yP S,F,Int.natAbs_pow,(ω:32*q+s=n)];rfl
 rw[<-F];have L:=hid y;clear hq hs F y hn;have Y:=hid X;clear X;obtain⟨p,G⟩:=ξ (2^s);have Z:(2:Int)^s=(p:Int):=by rw[G,Int.natCast_pow];rfl
 have M:p<4294967296:=by rw[G];exact Nat.pow_lt_pow_right δ S
 have a0:(1:Int)*2^s=(p:Int):=by rw[Int.one_mul];exact Z
 rw[<-G]at H;have HV:=hid H;clear G H;obtain⟨W,f⟩:=ξ (w.alloc (.cells #[.bool false,.slice none 0 0] 24));have hW:Below w w W:=by rw[f];exact(Below.refl _ _).alloc ι _
 have hWs:W.heap.size=w.heap.size+1:=by rw[f,World.size_alloc]
 have T:Row W w 24 [.bool false,.slice none 0 0]:=by rw[f];unfold Row;exact heap_alloc_new _ _
 have N:=hid f;clear f;have k:Lim ((List.replicate (q+1) 0).set q p):=(Lim.replicate _ δ).set M;have A:=hid k;clear k;go_enter func208,ntmps208;go_wp2_with(at_make;rw[<-N.out];refine aI rfl _ _ _ rfl 25 (Ψ 0) 4 underlying22 bz rfl _ _ _ _ (q+1) (q+1) rfl rfl (by simp) (by simp) ω ω ω ?_;intro w1 g hg1 hg2 d j;rw[<-aG]at d;have ig:=aX (P:=prog) underlying22 aK g (q+1) (q+1) .i64 (q:Int) q rfl ω;have x:=d.cell (i:=q) (by simp);have O:=d.free q);have B:=d.store q (p:Int) p rfl;have C:=τ hW j;have Q:w.heap.size<g:=ω
 have D:=(T.below j T.lt).other (a:=⟨g,q,none⟩) (by simp;omega) (Ψ p);have E:=aw C (g:=g) (i:=q) ω (Ψ p);obtain⟨V,U⟩:=ξ (w1.setCell ⟨g,q,none⟩ (Ψ p));rw[<-U]at B D E ⊢;clear U d ig x O j C;refine(dQ V false (some ⟨g,0,none⟩) _ (q+1) (q+1) z B.lay A.out (by simp) ω (CapB.new ι (Nat.le_trans Y.out (Nat.le_of_lt Q))) HV.out ⟨fun h=>(by cases h),fun _=>L.out⟩).mono ?_;rintro e w4 ⟨u,rfl,hu,hb⟩;obtain⟨a,c,rfl,k0,k1,k2,k3,e0,R,hf⟩:=fe D E ι hu hb;go_wp2;refine bodyPost_ret (v:=Ω (decide (z<0)) a (rep z.natAbs).length c) (by simp[results,results208,go_sem,e0,R]) rfl ?_;exact⟨_,rfl,hf.out⟩
end Go.Proofs.YtfefijlnbhbplaaGreatDoor
namespace Go.Proofs.YtfefijlnbhbplaaGreatDoor
open Go Lib Go.RowKit Limb Tryz
theorem nI(n:Nat)(xs:List Nat):splice (aC .u32 (List.replicate n 0)) 0 (aC .u32 xs)=aC .u32 (pad n xs):=by
 unfold splice pad;rw[List.take_zero,List.nil_append,Nat.zero_add,aD,bw,aG,aG,List.drop_replicate]
theorem Lay.cells{K:IntKind}{w w':World}{a:Option Addr}{l:List Nat}(h:Lay K w a l)(i:Below w w w')(k:0<l.length): ∃f,a=some f/\∀(j:Nat) (v:Value),(aC K l)[j]? =some v->w'.cell? (f.add j)=some v:=by
 obtain⟨b,d,h1,g⟩:=h.below i;refine⟨⟨b,d,none⟩,(h1 k).1,fun j v e=>?_⟩;have c:j<l.length:=by have:=(List.getElem?_eq_some_iff.1 e).1;rwa [aD]at this
 rw[aJ c]at e;rw[Addr.add_lit,g j c];exact e
theorem qk(K:IntKind)(l:List Nat): ∀v∈aC K l,v.oneCell'=true:=by
 intro u a;unfold aC at a;obtain⟨_,_,rfl⟩:=List.mem_map.1 a;rfl
theorem xL:(prog.info? 25).map (·.size)=some 1:=κ
theorem jb(w:World)(neg:Bool)(a:Option Addr)(xs:List Nat)(m cap n:Nat)(hlay:Lay .u32 w a xs)(hlim:Lim xs)(hm:m=xs.length)(hmn:m<=n)(hn:n<=1073741824)(hp:neg=true->0<val xs)(z:Int)(hz:z=if neg then -(val xs:Int)else(val xs:Int)):Calls prog 207 #[Ω neg a m cap,I n] w fun e w'=> ∃a' c',e= .returned (.slice a' n c')/\n<=c'/\Lay .u32 w' a' (two n z)/\Below w w w':=by
 obtain⟨W,hWe,r0,hW,hsz⟩:=B7 w 24 (.bool neg) (.slice a m cap);have HWe:=hid hWe;clear hWe;obtain⟨k0,k1⟩:=r0.two;have hlayW:=hlay.below hW;have Hm:=hid hm;clear hm;have HL:=hid (aD .u32 xs);cases neg with
 |false=>
  rw[if_neg δ]at hz;have hT:=hid (tM (n:=n) hlim (by rw[<-Hm.out];exact hmn));rw[<-hz]at hT;clear hz hp;go_enter func207,ntmps207
  go_wp2_with(first
   |(at_make;rw[<-HWe.out];refine aI rfl _ _ _ rfl 25 (Ψ 0) 4 underlying22 bz rfl _ _ _ _ n n rfl rfl rfl rfl ω ω ω ?_;intro w1 g hg1 hg2 hrow hbel;rw[<-aG]at hrow;have r1:=r0.below hbel r0.lt;have k10:=r1.ae 0;have k11:=r1.ae 1;simp only[yB,yC]at k10 k11)
   |((with_reducible show wpList _ _ _ (Oper.mk _ (.call {callee:= .builtin .copy,args:=_,argTypes:=_}) _ _ _ _ :: _) _ _);refine wpList_copy_splice rfl _ _ _ _ rfl 25 underlying22 xL _ _ _ _ _ _ rfl rfl g 0 _ 25 hrow (aC .u32 xs) (by rw[HL.out,<-Hm.out];exact(Nat.min_eq_left hmn).symm) (fun hpos=>⟨rfl,hlayW.cells hbel (by rw[<-aD .u32];exact hpos)⟩) (by rw[HL.out,<-Hm.out,aD,List.length_replicate];omega) (qk _ _) W W hbel hg1 ?_;intro w2 HG2 hB2;have r2:=r0.below hB2 r0.lt;have k20:=r2.ae 0;have k21:=r2.ae 1;simp only[yB,yC]at k20 k21))
  go_ret;refine⟨_,_,rfl,Nat.le_refl _,?_,τ hW hB2⟩;rw[hT.out];have h:=HG2.out;rw[nI]at h;exact Row.lay h
 |true=>
  rw[if_pos rfl]at hz;have hp':=hp rfl;obtain⟨P,hP⟩:=ξ (pad n xs);have HPl:=hid (kG (n:=n) (l:=xs) (by rw[<-Hm.out];exact hmn));have HPm:=hid (sS (n:=n) hlim);have HE:=hid (fun(zs:List Nat) h1 h2 h3=>Bx (n:=n) (zs:=zs) hlim (by rw[<-Hm.out];exact hmn) hp' h1 h2 h3);rw[<-hP]at HPl HPm HE;rw[<-hz]at HE
  have hn1:1<=n:=by
   rcases Nat.eq_zero_or_pos n with h|h
   ·have hl0:xs=[]:=List.eq_nil_of_length_eq_zero (by rw[<-Hm.out];omega);rw[hl0]at hp';simp[val]at hp'
   ·exact h
  have HP:=hid hP;clear hz hp hp' hP;go_enter func207,ntmps207
  go_wp2_with(first
   |(at_make;rw[<-HWe.out];refine aI rfl _ _ _ rfl 25 (Ψ 0) 4 underlying22 bz rfl _ _ _ _ n n rfl rfl rfl rfl ω ω ω ?_;intro w1 g hg1 hg2 hrow hbel;rw[<-aG]at hrow;have r1:=r0.below hbel r0.lt;have k10:=r1.ae 0;have k11:=r1.ae 1;simp only[yB,yC]at k10 k11)
   |((with_reducible show wpList _ _ _ (Oper.mk _ (.call {callee:= .builtin .copy,args:=_,argTypes:=_}) _ _ _ _ :: _) _ _);refine wpList_copy_splice rfl _ _ _ _ rfl 25 underlying22 xL _ _ _ _ _ _ rfl rfl g 0 _ 25 hrow (aC .u32 xs) (by rw[HL.out,<-Hm.out];exact(Nat.min_eq_left hmn).symm) (fun hpos=>⟨rfl,hlayW.cells hbel (by rw[<-aD .u32];exact hpos)⟩) (by rw[HL.out,<-Hm.out,aD,List.length_replicate];omega) (qk _ _) W W hbel hg1 ?_;intro w2 HG2 hB2;have r2:=r0.below hB2 r0.lt;have k20:=r2.ae 0;have k21:=r2.ae 1;simp only[yB,yC]at k20 k21))
  have hrow2:=HG2.out;rw[nI,<-HP.out]at hrow2;clear HG2 r1 r2 k10 k11 k20 k21 hrow hbel;go_loopw[19] (fun i wr=> ∃j:Nat,j<=n/\i= .int .i64 j/\Row wr g 25 (aC .u32 (gD j P))/\Below W W wr) (fun i _=>n-(intOf i).toNat);case atStart=>exact⟨0,ω,rfl,by rw[k8];exact hrow2,hB2⟩
  case round=>
   obtain⟨j,hj,rfl,hr,hB⟩:=hrel;clear hrow2 hB2;by_cases hlt:j<n
   ·have hcell:=hr.cell (i:=j) (by rw[cV,HPl.out];exact hlt);rw[iW _ _ (by rw[HPl.out];exact hlt),if_neg (Nat.lt_irrefl _)]at hcell;have hset:=hid (mi (l:=P) (j:=j) (by rw[HPl.out];exact hlt));have hfk:=hr.free j;have ig:=aX (P:=prog) underlying22 aK g n n .i64 (j:Int) j rfl hlt;obtain⟨x,hx⟩:=ξ (wd P j);have hxl:x<4294967296:=by rw[hx];exact HPm.out.wd j
    rw[<-hx]at hcell hset;have e3:=nt hxl;obtain⟨y,hy⟩:=ξ (4294967295-x);rw[<-hy]at e3 hset;clear hx hxl hy;go_wp2;go_roundw;case rel=>exact⟨j+1,ω,by go_num,by rw[<-hset.out];exact hr.store _ _ _ e3,aw hB hg1 _⟩
    case measure=>exact μ
   ·obtain rfl:j=n:=ω
    rw[lU (by rw[HPl.out];exact Nat.le_refl _)]at hr;have hIl:Hid (j=(inv P).length):=hid (by rw[cY,HPl.out]);have hb1:Below wr.heap.size wr (wr.alloc (.cells #[Ψ 1] 25)):=(Below.refl _ _).alloc ι _;have h1:=kO wr 25 .u32 1 1 rfl;have hB3:=τ hW hB;go_wp2_with fail;refine(oG _ (some ⟨g,0,none⟩) (some ⟨wr.heap.size,0,none⟩) (inv P) [1] j 1 j 1 j (hr.lay.below hb1) h1 (nh _) (Lim.cons δ Lim.nil) hIl.out rfl ι hn1 ω).mono ?_;rintro e w3 ⟨a3,n3,c3,zs3,rfl,hn3,hc3,hm3,hl3,hv3,hla3,hb3,hf3,hk3⟩;have HT:=hid (HE.out zs3 hl3 ω (by rw[hv3];rfl));have hfin:=hB3.trans ((hb1.trans (hb3.mono hb1.size)).mono hB3.size);have hln:=hla3.take j;rw[HT.out]at hln;clear hv3 hn3 hl3 hla3 hf3;go_wp2;go_ret;exact⟨_,_,rfl,ω,hln,hfin⟩
def AW:Option Value->Nat
 |some (.int _ n)=>n.toNat
 |_=>0
def pJ(w:World):Value->Nat
 | .slice (some ⟨b,off,_⟩) n _=>val ((List.range n).map fun i=>AW (w.cell? ⟨b,off+i,none⟩))
 |_=>0
theorem fw{w:World}{a:Option Addr}{z n c:Nat}(h:Lay .u32 w a (rep z))(q:n=(rep z).length):pJ w (.slice a n c)=z:=by
 subst q;obtain⟨b,d,h1,o⟩:=h;by_cases h0:0<(rep z).length
 ·have e:=(h1 h0).1;subst e;unfold pJ;simp only[]
  have j:((List.range (rep z).length).map fun i=>AW (w.cell? ⟨b,d+i,none⟩))=rep z:=by
   refine List.ext_getElem (by simp) fun i r f=>?_
   rw[List.getElem_map,List.getElem_range,o i f,wd_lt f];simp[AW]
  rw[j,aE]
 ·have e:(rep z).length=0:=ω;have k:z=0:=rep_length_zero.1 e;rw[e];subst k;unfold pJ;cases a<;>rfl
set_option linter.unusedSectionVars false
variable [Old]
def xN(U:World)(z:Int)(s:Value)(X:World):Prop:=
 ∃g b a n c,s= .pointer (some ⟨g,0,none⟩)/\U.heap.size<=g/\Row X g 24 [.bool b,.slice a n c]/\ApiV X (Ω b a n c) z/\Below U U X
theorem Al{U X:World}{g:Nat}{k:Bool}{m:Option Addr}{p q:Nat}{b:Bool}{a:Option Addr}{n c:Nat}{z:Int}(f:Row X g 24 [.bool k,.slice m p q])(d:U.heap.size<=g)(h:ApiV X (Ω b a n c) z)(hX:Below U U X):xN U z (E g) ((X.setCell ⟨g,0,none⟩ (.bool b)).setCell ⟨g,1,none⟩ (.slice a n c)):=
 ⟨g,b,a,n,c,rfl,d,(f.af 0 _).af 1 _,ApiV.to h (fun _ _ j=>j.pair f _ _),aw (aw hX d _) d _⟩
theorem zh{U X:World}{z:Int}{s:Value}{g:Nat}{y:Bool}{A:Option Addr}{B D:Nat}{u v:Value}(h:xN U z s X)(E:Row X g 24 [.bool y,.slice A B D])(k:U.heap.size<=g)(f:s≠ .pointer (some ⟨g,0,none⟩)):xN U z s ((X.setCell ⟨g,0,none⟩ u).setCell ⟨g,1,none⟩ v):=by
 obtain⟨j,b,a,n,c,rfl,h1,m,p,q⟩:=h;have d:j≠g:=fun e=>f (by rw[e])
 exact⟨j,b,a,n,c,rfl,h1,(m.other (by exact d) _).other (by exact d) _,ApiV.to p (fun _ _ x=>x.pair E _ _),aw (aw q k _) k _⟩
def ve(w w':World)(e:Ending)(x n:Int):Prop:= ∃b a m c,
 e=Rt #[Ω b a m c,.bool true]/\ApiV w' (Ω b a m c) (cf x n)/\Below w w w'
def Aj(w w':World)(e:Ending):Prop:= ∃b a m c,e=Rt #[Ω b a m c,.bool false]/\Below w w w'
theorem DQ{x:Int}{c u:Nat}(k:(rep x.natAbs).length<=c)(f:32*c<=u):x/2^u=if x<0 then -1 else 0:=by
 have j:x.natAbs<2^u:=Nat.lt_of_lt_of_le (rep_length_le.1 k) (by rw[dj];exact Nat.pow_le_pow_right δ f);have e:((2:Int)^u)=((2^u:Nat):Int):=by rw[Int.natCast_pow];rfl
 rw[e];generalize 2^u=d at j ⊢;by_cases i:x<0
 ·rw[if_pos i];exact((Int.ediv_emod_unique (a:=x) (b:=(d:Int)) (q:= -1) (r:=x+d) ω).2 ⟨ω,ω,ω⟩).1
 ·rw[if_neg i];exact Int.ediv_eq_zero_of_lt ω ω
theorem wF{x n:Int}(a:(rep x.natAbs).length<=1024)(b:n< -32768):cf x n=if x<0 then -1 else 0:=by
 unfold cf;rw[if_neg ω];exact DQ a ω
end Go.Proofs.YtfefijlnbhbplaaGreatDoor

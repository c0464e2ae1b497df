/- Walks and laws that LargeData asks for. -/
import Derived.Test.YtfefijlnbhbplaaGreatDoorGX12
import Derived.Test.YtfefijlnbhbplaaGreatDoorGX11
import Derived.Test.YtfefijlnbhbplaaGreatDoorGX10
set_option linter.unusedVariables false
set_option linter.unusedSimpArgs false
set_option maxRecDepth 1000000
set_option maxHeartbeats 6400000
namespace Go.Proofs.YtfefijlnbhbplaaGreatDoor
open Go Lib Go.RowKit Limb Tryz
def bn(a:Bool)(l:List Nat):Bool:=if l.length=0 then !a else decide (l.length<=1024)&&decide (wd l (l.length-1)≠0)
theorem ro{l:List Nat}(h:l.length=0∨wd l (l.length-1)≠0):fN l:=by
 unfold fN;intro e;rcases h with h|h
 ·rw[List.eq_nil_of_length_eq_zero h]at e;simp at e
 ·apply h;rw[List.getLast?_eq_getElem?]at e;unfold wd;rw[List.getD_eq_getElem?_getD,e];rfl
theorem bQ{c:Bool}{l:List Nat}(f:Lim l)(h:bn c l=true):l=rep (signed c (val l)).natAbs/\c=decide (signed c (val l)<0)/\l.length<=1024:=by
 unfold bn at h;have e:(signed c (val l)).natAbs=val l:=by unfold signed;split<;>omega
 rw[e];split at h
 ·rename_i h0;have:l=[]:=List.eq_nil_of_length_eq_zero h0;subst this;have d:c=false:=by simpa using h
  subst d;exact⟨rfl,rfl,by simp⟩
 ·rename_i h0;simp only[Bool.and_eq_true,decide_eq_true_eq]at h;have d:=ro (.inr h.2);refine⟨(fM f d).symm,?_,h.1⟩;have j:val l≠0:=by intro g;have:=fM f d;rw[g,eE]at this;rw[<-this]at h0;simp at h0
  unfold signed;cases c<;>simp<;>omega
theorem tc(z:Int):bn (decide (z<0)) (rep z.natAbs)=decide ((rep z.natAbs).length<=1024):=by
 unfold bn;split
 ·rename_i h;rw[rep_length_zero]at h;have:z=0:=ω
  subst this;decide
 ·rename_i h;obtain⟨k,a⟩: ∃k,(rep z.natAbs).length=k+1:=⟨(rep z.natAbs).length-1,ω⟩;have:=mj (bh z.natAbs) a;rw[a,Nat.add_sub_cancel];simp[this]
theorem dz(w:World)(f:Bool)(a:Option Addr)(l:List Nat)(n cap:Nat)(q:Lay .u32 w a l)(r:Lim l)(v:n=l.length)(G:n<=9223372036854775807):Calls prog 36 #[Ω f a n cap] w fun e w'=>e= .returned (.bool (bn f l))/\Below w w w':=by
 obtain⟨F,A,g,j,_⟩:=q.use 22 25 underlying22 aK cap;rw[<-v]at g j;by_cases h0:n=0
 ·have m:bn f l=!f:=(by unfold bn;rw[if_pos ω]);rw[m];clear g j v m;subst h0;go_enter func36,ntmps36;go_wp2;go_ret;exact⟨rfl,(Below.refl _ _).alloc ι _⟩
 ·have m:bn f l=(decide (n<=1024)&&decide (wd l (n-1)≠0)):=(by unfold bn;rw[if_neg ω,<-v]);have E:((n:Int)==0)=false:=nE
  obtain⟨B,k⟩:=ξ (w.alloc (.cells #[.bool f,.slice a n cap] 24));have x:=g B .i64 ((n:Int)-1) ω ω;rw[show((n:Int)-1).toNat=n-1 from by omega]at x;have y:=j B (by rw[k];exact(Below.refl _ _).alloc ι _) (n-1) ω;rw[k]at x y;have h1:=r.wd (n-1);rw[m];clear m g j v k;by_cases p:n<=1024
  ·have z:decide (n<=1024)=true:=(by simpa using p);have C:decide ((n:Int)<=1024)=true:=by simp;omega
   by_cases u:wd l (n-1)=0
   ·have D:(((wd l (n-1):Nat):Int) != 0)=false:=(by rw[bne_eq_false_iff_eq];omega);have d:(decide (n<=1024)&&decide (wd l (n-1)≠0))=false:=by rw[u];simp
    rw[d];clear u d h0;go_enter func36,ntmps36;go_wp2;go_ret;exact⟨rfl,(Below.refl _ _).alloc ι _⟩
   ·have D:(((wd l (n-1):Nat):Int) != 0)=true:=(by rw[bne_iff_ne];omega);have d:(decide (n<=1024)&&decide (wd l (n-1)≠0))=true:=by simp[p,u]
    rw[d];clear u d h0;go_enter func36,ntmps36;go_wp2;go_ret;exact⟨rfl,(Below.refl _ _).alloc ι _⟩
  ·have z:decide (n<=1024)=false:=(by simp;omega);have C:decide ((n:Int)<=1024)=false:=by simp;omega
   have d:(decide (n<=1024)&&decide (wd l (n-1)≠0))=false:=(by rw[z];rfl);rw[d];clear d h0 x y;go_enter func36,ntmps36;go_wp2;go_ret;exact⟨rfl,(Below.refl _ _).alloc ι _⟩
theorem dY(w:World)(g:Nat)(A B:Bool)(E F:Option Addr)(v x:List Nat)(C D c1 G:Nat)(R:Row w g 24 [.bool A,.slice E C c1,.bool B,.slice F D G])(H:Lay .u32 w E v)(I:Lay .u32 w F x)(L:Lim v)(N:Lim x)(q:C=v.length)(u:D=x.length)(k:C<=9223372036854775807)(p:D<=9223372036854775807):Calls prog 173 #[M g 2 2] w fun e w'=>e= .returned (.bool (bn A v&&bn B x))/\Below w w w':=by
 have f:=fun W (z:Below w w W)=>dz W A E v C c1 (H.below z) L q k
 have j:=fun W (z:Below w w W)=>dz W B F x D G (I.below z) N u p
 have y: ∀W,Below w w W->W.cell? ⟨g,0,none⟩=some (.bool A)/\W.cell? ⟨g,1,none⟩=some (.slice E C c1)/\W.cell? ⟨g,2,none⟩=some (.bool B)/\W.cell? ⟨g,3,none⟩=some (.slice F D G):=by
  intro W z;have:=R.below z R.lt;exact⟨this.ae 0,this.ae 1,this.ae 2,this.ae 3⟩
 have O:=hid y;clear y;obtain⟨Y,Z,k2,k3⟩:=O.out w (Below.refl _ _);have S:=hid q;clear q;have T:=hid u;clear u;obtain⟨U,k⟩: ∃b,b=bn A v:=⟨_,rfl⟩;obtain⟨V,p⟩: ∃b,b=bn B x:=⟨_,rfl⟩;rw[<-k]at f ⊢;rw[<-p]at j ⊢;have P:=hid f;clear f;have Q:=hid j;clear j;clear k p;cases U with
 |false=>
  go_enter func173,ntmps173;go_wp2;refine wp_loop_rounds 1 ?_;rw[rounds_succ];go_wp2_with(go_at_call 36;refine(P.out _ ?_).mono ?_;exact(Below.refl _ _).alloc ι _;rintro e w1 ⟨rfl,k⟩);go_ret;exact⟨rfl,((Below.refl _ _).alloc ι _).trans (k.mono (by rw[World.size_alloc];omega))⟩
 |true=>
  go_enter func173,ntmps173;go_wp2;refine wp_loop_rounds 3 ?_;rw[rounds_succ];go_wp2_with(go_at_call 36;refine(P.out _ ?_).mono ?_;exact(Below.refl _ _).alloc ι _;rintro e w1 ⟨rfl,k⟩);have d:Below w w w1:=((Below.refl _ _).alloc ι _).trans (k.mono (by rw[World.size_alloc];omega));obtain⟨j0,j1,j2,j3⟩:=O.out w1 d;cases V with
  |false=>
   rw[rounds_succ];go_wp2_with(go_at_call 36;refine(Q.out _ ?_).mono ?_;exact d.alloc d.size _;rintro e X ⟨rfl,p⟩);go_ret;exact⟨rfl,(d.alloc d.size _).trans (p.mono (by rw[World.size_alloc];have:=d.size;omega))⟩
  |true=>
   rw[rounds_succ];go_wp2_with(go_at_call 36;refine(Q.out _ ?_).mono ?_;exact d.alloc d.size _;rintro e X ⟨rfl,p⟩);rw[rounds_succ];go_wp2;go_ret;exact⟨rfl,(d.alloc d.size _).trans (p.mono (by rw[World.size_alloc];have:=d.size;omega))⟩
structure At (w1 X:World) (l:List (Nat×Int)):Prop where
 below:Below w1 w1 X
 ints: ∀p∈l,IntAt X p.1 p.2/\w1.heap.size<=p.1
 nd:(l.map Prod.fst).Nodup
def upd(l:List (Nat×Int))(p:Nat)(z:Int):List (Nat×Int):=l.map fun q=>if q.1=p then(p,z)else q
theorem sK(l:List (Nat×Int))(p:Nat)(z:Int):(upd l p z).map Prod.fst=l.map Prod.fst:=by
 unfold upd;rw[List.map_map];apply List.map_congr_left;intro q _;simp only[Function.comp];split<;>simp_all
theorem At.refl(w:World):At w w []:=⟨Below.refl _ _,fun p h=>by(cases h),by simp⟩
theorem At.drew{w1 X:World}{l:List (Nat×Int)}(h:At w1 X l):At w1 X.drew l:=⟨h.below.drew,h.ints,h.nd⟩
theorem At.drewN{w1 X:World}{l:List (Nat×Int)}(h:At w1 X l)(n:Nat):At w1 (X.drewN n) l:=⟨⟨h.below.os,h.below.tape,h.below.output,h.below.size,h.below.block⟩,h.ints,h.nd⟩
theorem At.next{w1 X c:World}{l:List (Nat×Int)}(h:At w1 X l)(d:Below X X c):At w1 c l:=
 ⟨h.below.trans (d.mono h.below.size),fun p a=>⟨(h.ints p a).1.below d,(h.ints p a).2⟩,h.nd⟩
theorem At.alloc'{w1 X:World}{l:List (Nat×Int)}(h:At w1 X l)(o:Obj):At w1 (X.alloc o) l:=h.next ((Below.refl _ _).alloc ι _)
theorem At.cons{w1 X c:World}{l:List (Nat×Int)}{p:Nat}{z:Int}(h:At w1 X l)(d:Below X X c)(g:X.heap.size<=p)(j:IntAt c p z):At w1 c ((p,z) :: l):=by
 refine⟨(h.next d).below,?_,?_⟩
 ·intro q a;rcases List.mem_cons.mp a with rfl|a
  ·exact⟨j,Nat.le_trans h.below.size g⟩
  ·exact(h.next d).ints q a
 ·rw[List.map_cons,List.nodup_cons];refine⟨fun f=>?_,h.nd⟩;obtain⟨q,a,e⟩:=List.mem_map.mp f;have:=(h.ints q a).1.lt;simp only at e;omega
theorem At.new{w1 X:World}{l:List (Nat×Int)}(h:At w1 X l):At w1 (X.alloc (.cells #[.bool false,.slice none 0 0] 194)) ((X,0) :: l):=
 h.cons ((Below.refl _ _).alloc ι _) ι (IntAt.new X)
theorem At.set{w1 X c:World}{l:List (Nat×Int)}{p:Nat}{v z:Int}(h:At w1 X l)(d:(p,v)∈l)(g:Only [p] X c)(i:IntAt c p z):At w1 c (upd l p z):=by
 refine⟨h.below.trans (g.ah h.below.size (by intro q a;rw[List.mem_singleton]at a;subst a;exact(h.ints _ d).2)),?_,by rw[sK];exact h.nd⟩;intro q a;obtain⟨r,f,e⟩:=List.mem_map.mp a;split at e
 ·subst e;exact⟨i,(h.ints _ d).2⟩
 ·subst e;rename_i b;exact⟨(h.ints _ f).1.only g (by simp;exact b) (IntBlocks.one (h.ints _ d).1),(h.ints _ f).2⟩
theorem eI{l:List (Nat×Int)}{p:Nat}{v:Int}(z:Int)(h:(p,v)∈l):(p,z)∈upd l p z:=List.mem_map.mpr ⟨_,h,by simp⟩
theorem dW{l:List (Nat×Int)}{p q:Nat}{x:Int}(z:Int)(h:(q,x)∈l)(a:q≠p):(q,x)∈upd l p z:=List.mem_map.mpr ⟨_,h,by simp[a]⟩
theorem At.ne{w1 X:World}{l:List (Nat×Int)}(h:At w1 X l){p q:Nat}{x y:Int}(b:(p,x)∈l)(c:(q,y)∈l)(a:l.findIdx (fun r=>r.1==p)≠l.findIdx (fun r=>r.1==q)):p≠q:=by
 intro e;subst e;exact a rfl
theorem db{w1 X:World}{l:List (Nat×Int)}(h:At w1 X l)(b:Bool)(a:Option Addr)(c:List Nat)(n cap:Nat)(d:Lay .u32 w1 a c)(f:Lim c)(i:n=c.length)(j:n<=68719476736):Calls prog 78 #[Ω b a n cap] X fun e g=> ∃p,e= .returned (E p)/\At w1 g ((p,signed b (val c)) :: l):=by
 refine(p8 X b a c n cap (d.below h.below) f i j).mono ?_;rintro e g ⟨p,rfl,h1,h2,h3⟩;exact⟨p,rfl,h.cons h3 h1 h2⟩
theorem xf{w1 X:World}{l:List (Nat×Int)}{p q r:Nat}{v x y:Int}(h:At w1 X l)(b:(p,v)∈l)(c:(q,x)∈l)(d:(r,y)∈l)(hs:(rep x.natAbs).length<=68719476736)(ht:(rep y.natAbs).length<=68719476736):Calls prog 176 #[E p,E q,E r] X fun e a=>e= .returned (E p)/\At w1 a (upd l p (x+y)):=by
 refine(Ep X p q r v x y (h.ints _ b).1 (h.ints _ c).1 (h.ints _ d).1 hs ht).mono ?_;rintro e a ⟨rfl,h1,h2⟩;exact⟨rfl,h.set b h2 h1⟩
theorem By{w1 X:World}{l:List (Nat×Int)}{p q r:Nat}{v x y:Int}(h:At w1 X l)(b:(p,v)∈l)(c:(q,x)∈l)(d:(r,y)∈l)(hs:(rep x.natAbs).length<=68719476736)(ht:(rep y.natAbs).length<=68719476736):Calls prog 175 #[E p,E q,E r] X fun e a=>e= .returned (E p)/\At w1 a (upd l p (x-y)):=by
 refine(Dk X p q r v x y (h.ints _ b).1 (h.ints _ c).1 (h.ints _ d).1 hs ht).mono ?_;rintro e a ⟨rfl,h1,h2⟩;exact⟨rfl,h.set b h2 h1⟩
theorem Fm{w1 X:World}{l:List (Nat×Int)}{p q r:Nat}{v x y:Int}(h:At w1 X l)(c:(p,v)∈l)(f:(q,x)∈l)(i:(r,y)∈l)(a:(l.map Prod.fst).Nodup->p≠q/\p≠r)(hs:(rep x.natAbs).length<=68719476736)(ht:(rep y.natAbs).length<=68719476736):Calls prog 185 #[E p,E q,E r] X fun e b=>e= .returned (E p)/\At w1 b (upd l p (x*y)):=by
 refine(Ej X p q r v x y (h.ints _ c).1 (h.ints _ f).1 (h.ints _ i).1 (a h.nd).1 (a h.nd).2 hs ht).mono ?_;rintro e b ⟨rfl,h1,h2⟩;exact⟨rfl,h.set c h2 h1⟩
def Au(B:Nat)(X:World)(e:Ending)(z:Int):Prop:=
 (1024<(rep z.natAbs).length/\e=Rt #[Ω false none 0 0,I 2])∨
  ((rep z.natAbs).length<=1024/\∃a cap,e=Rt #[Ω (decide (z<0)) a (rep z.natAbs).length cap,I 0]/\CapB B a (rep z.natAbs).length cap/\Lay .u32 X a (rep z.natAbs))
theorem zb{w1 X:World}{l:List (Nat×Int)}{p:Nat}{z:Int}(h:At w1 X l)(d:(p,z)∈l)(hs:(rep z.natAbs).length<=68719476736):Calls prog 81 #[E p] X fun e c=>Au w1 c e z/\At w1 c l:=by
 refine(iL X p z (h.ints _ d).1 hs).mono ?_;rintro e c ⟨hb,h1⟩;refine⟨?_,h.next hb⟩;rcases h1 with⟨h1,b⟩|⟨h1,v,b,a,n,cap,h3,h4,h5,h6⟩
 ·exact .inl ⟨h1,b⟩
 ·subst h4;exact .inr ⟨h1,a,cap,by rw[b,h3],h5.mono h.below.size,h6⟩
theorem su{w1 X:World}{l:List (Nat×Int)}{p:Nat}{z:Int}(h:At w1 X l)(c:(p,z)∈l)(hs:(rep z.natAbs).length<=1024):Calls prog 81 #[E p] X fun e b=>(∃a cap,e=Rt #[Ω (decide (z<0)) a (rep z.natAbs).length cap,I 0]/\CapB w1 a (rep z.natAbs).length cap/\Lay .u32 b a (rep z.natAbs))/\At w1 b l:=by
 refine(zb h c (Nat.le_trans hs δ)).mono ?_;rintro e b ⟨h1,h2⟩;rcases h1 with⟨h1,_⟩|⟨_,h1⟩
 ·omega
 ·exact⟨h1,h2⟩
theorem jR{w1 X:World}{l:List (Nat×Int)}{p:Nat}{z:Int}(h:At w1 X l)(c:(p,z)∈l)(hs:(rep z.natAbs).length<=1024):Calls prog 81 #[E p] X fun e b=>(∃a cap,e=Rt #[Ω (decide (z<0)) a (rep z.natAbs).length cap,I 0]/\CapB w1 a (rep z.natAbs).length cap/\Lay .u32 b a (rep z.natAbs))/\At w1 b l/\Below X X b:=by
 refine(iL X p z (h.ints _ c).1 (Nat.le_trans hs δ)).mono ?_;rintro e b ⟨hb,⟨h1,_⟩|⟨h1,v,h2,a,n,cap,h3,h4,h5,h6⟩⟩
 ·omega
 ·subst h4;exact⟨⟨a,cap,by rw[h2,h3],h5.mono h.below.size,h6⟩,h.next hb,hb⟩
theorem Lay.notPair{K:IntKind}{w:World}{a:Option Addr}{l:List Nat}{g:Nat}{e:TypeId}{b:Bool}{t:Option Addr}{u v:Nat}(h:Lay K w a l)(x:Row w g e [.bool b,.slice t u v]):0<l.length->∀b f,a=some ⟨b,f,none⟩->b∉[g]:=by
 intro m z f r p;rw[List.mem_singleton]at p;obtain⟨y,k,h1,q⟩:=h;have j:=(h1 m).1;rw[r]at j;simp only[Option.some.injEq,Addr.mk.injEq,and_true]at j;obtain⟨rfl,rfl⟩:=j;have d:=q 0 m;rw[p,x.ae]at d
 match f,d with
 |0,d=>simp at d
 |1,d=>simp at d
 |n+2,d=>simp at d
theorem Lay.pair{K:IntKind}{w:World}{a:Option Addr}{l:List Nat}{g:Nat}{e:TypeId}{b:Bool}{d:Option Addr}{f j:Nat}(h:Lay K w a l)(k:Row w g e [.bool b,.slice d f j])(u v:Value):Lay K ((w.setCell ⟨g,0,none⟩ u).setCell ⟨g,1,none⟩ v) a l:=
 h.only (((Only.refl [g] w).setCell (by simp) u).setCell (by simp) v) (h.notPair k)
end Go.Proofs.YtfefijlnbhbplaaGreatDoor

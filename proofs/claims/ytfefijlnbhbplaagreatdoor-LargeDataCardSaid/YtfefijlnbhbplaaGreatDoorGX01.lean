/- Walks and laws that LargeData asks for. -/
import Derived.Test.YtfefijlnbhbplaaGreatDoorGX00
import Derived.OrdersHeld
import Derived.Lib.BitFns
set_option linter.unusedVariables false
set_option linter.unusedSimpArgs false
namespace Go.Proofs.YtfefijlnbhbplaaGreatDoor
open Go Lib Go.RowKit Limb
theorem Row.fin{w X:World}{B g:Nat}{t:TypeId}{u v:Value}(h:Row X g t [u,v])(f:Below B w X)(d:B<=g)(a b:Value):X.cell? ⟨g,0,none⟩=some u/\X.cell? ⟨g,1,none⟩=some v/\X.frozen? ⟨g,0,none⟩=false/\X.frozen? ⟨g,1,none⟩=false/\(X.setCell ⟨g,0,none⟩ a).cell? ⟨g,0,none⟩=some a/\((X.setCell ⟨g,0,none⟩ a).setCell ⟨g,1,none⟩ b).cell? ⟨g,1,none⟩=some b/\Hid (Below B w ((X.setCell ⟨g,0,none⟩ a).setCell ⟨g,1,none⟩ b)):=
 ⟨h.ae 0,h.ae 1,h.free 0,h.free 1,(h.af 0 _).ae 0,((h.af 0 _).af 1 _).ae 1,hid (aw (aw f d _) d _)⟩
theorem Row.two{X:World}{g:Nat}{t:TypeId}{u v:Value}{l:List Value}(h:Row X g t (u :: v :: l)):X.cell? ⟨g,0,none⟩=some u/\X.cell? ⟨g,1,none⟩=some v:=⟨h.ae 0,h.ae 1⟩
theorem Row.four{X:World}{g:Nat}{t:TypeId}{u v:Value}{l:List Value}(h:Row X g t (u :: v :: l)):X.cell? ⟨g,0,none⟩=some u/\X.cell? ⟨g,1,none⟩=some v/\X.frozen? ⟨g,0,none⟩=false/\X.frozen? ⟨g,1,none⟩=false:=⟨h.ae 0,h.ae 1,h.free 0,h.free 1⟩
theorem Row.self{X:World}{g:Nat}{t:TypeId}{b:List Value}(h:Row X g t b)(i:Nat){v:Value}(c:b[i]? =some v):X.setCell ⟨g,i,none⟩ v=X:=by
 have e:(X.setCell ⟨g,i,none⟩ v).heap=X.heap:=by
  have d:=h.af i v;unfold Row at h d;apply Array.ext_getElem?;intro j;by_cases f:g=j
  ·subst f;rw[d,h]
   have:b.set i v=b:=by
    apply List.ext_getElem?;intro k;rw[List.getElem?_set];split
    ·rename_i l;subst l;split
     ·exact c.symm
     ·rename_i m;rw[List.getElem?_eq_none ω]at c;cases c
    ·rfl
   rw[this]
  ·exact Below.heap_setCell _ _ _ _ (fun e=>f e.symm)
 show{X with heap:=(X.setCell ⟨g,i,none⟩ v).heap}=X
 rw[e]
theorem Row.selfs{X:World}{g:Nat}{t:TypeId}{u v:Value}(h:Row X g t [u,v]):X.setCell ⟨g,0,none⟩ u=X/\X.setCell ⟨g,1,none⟩ v=X:=⟨h.self 0 rfl,h.self 1 rfl⟩
theorem aR{P:Program}{md:Region.Mode}{ops:Array Oper}{Q:Exit->Act->World->Prop}{S:World->Prop}{i:Nat}{oi:Oper}{v:Value}{fuel:Nat}{listed:Array Bool}{a:Act}{w:World}(d:Tmp)(hi:ops[i]? =some oi)(hd:oi.dst=some d)
  (hs:Region.noSelect ops=true) (hf:Region.free md ops listed i=true) (hr:(Region.ready md ops listed).contains i=true)
  (hQ: ∀c a w,Q (.panic c) (a.put oi.dst v) w->Q (.panic c) a w) (hy:YieldsIf P ops S oi v a) (hS:S w)
  (h:wpAnyH P md ops Q S fuel (listed.setIfInBounds i true) (a.put (some d) v) w):wpAnyH P md ops Q S (fuel+1) listed a w:=
 wpAnyH_take hi hs hf hr hQ hy hS (by rw[hd];exact h)
theorem tk{P:Program}{md:Region.Mode}{ops:Array Oper}{Q:Exit->Act->World->Prop}{S:World->Prop}{fuel:Nat}{listed:Array Bool}{a:Act}{w:World}(i:Nat)(v:Value){oi:Oper}{d:Tmp}{a':Act}
 (h:wpAnyH P md ops Q S fuel (listed.setIfInBounds i true) a' w)
 (hi:ops[i]? =some oi:=by rfl) (hd:oi.dst=some d:=by rfl)
 (hs:Region.noSelect ops=true:=by kernel_rfl) (hf:Region.free md ops listed i=true:=by kernel_rfl) (hr:(Region.ready md ops listed).contains i=true:=by kernel_rfl)
 (hQ: ∀c a w,Q (.panic c) (a.put oi.dst v) w->Q (.panic c) a w:=by exact fun _ _ _ h=>h) (hw:Region.wanted oi (yielded ops a.tmps)=true:=by rfl)
 (y: ∀w,S w->(execOp a.eval oi).run P w= .ok (.value v) w:=by intro X hX;go_simp) (hS:S w:=by first |with_reducible assumption|exact hX|exact hS)
 (ha:a'=a.put (some d) v:=by simp only[Act.put,zA,zB,zC];rfl):wpAnyH P md ops Q S (fuel+1) listed a w:=
 wpAnyH_take hi hs hf hr hQ (.inl ⟨hw,y⟩) hS (by rw[hd,<-ha];exact h)
theorem wo{P:Program}{md:Region.Mode}{ops:Array Oper}{Q:Exit->Act->World->Prop}{S:World->Prop}{fuel:Nat}{listed:Array Bool}{a:Act}{w:World}(i:Nat)
 (h:wpOp P ops Q i (fun a' w'=>S w'/\wpAnyH P md ops Q S fuel (listed.setIfInBounds i true) a' w') a w) (hr:Region.ready md ops listed=[i]:=by kernel_rfl):wpAnyH P md ops Q S (fuel+1) listed a w:=
 wpAnyH_all hr (by simp) fun j hj=>by rw[List.mem_singleton.1 hj];exact h
end Go.Proofs.YtfefijlnbhbplaaGreatDoor
namespace Go.Proofs.YtfefijlnbhbplaaGreatDoor.Limb
theorem Ci{U V T a R:Nat}(g:0<R)(i:U<(T+1)*R)(b:a*R<=V)(c:0<a):U/V<=T/a:=by
 have d:0<V:=Nat.lt_of_lt_of_le (Nat.mul_pos c g) b;rw[Nat.le_div_iff_mul_le c];have h1:U/V*V<=U:=Nat.div_mul_le_self _ _
 have e:U/V*a*R<=U:=by
  rw[Nat.mul_assoc];exact Nat.le_trans (Nat.mul_le_mul_left _ b) h1
 have f:U/V*a*R<(T+1)*R:=Nat.lt_of_le_of_lt e i;have:=Nat.lt_of_mul_lt_mul_right f;omega
theorem wA{U V q g a b r T c R:Nat}(f:U<(T*4294967296+c+1)*R)(i:(a*4294967296+b)*R<=V)(j:g*a+r=T)(ht:r*4294967296+c<g*b)(k:q=U/V):q<g:=by
 rcases Nat.lt_or_ge q g with h|h
 ·exact h
 ·exfalso;have h1:g*V<=U:=Nat.le_trans (Nat.mul_le_mul_right V h) (by rw[k];exact Nat.div_mul_le_self _ _);have d:g*(a*4294967296+b)*R<=U:=by rw[Nat.mul_assoc];exact Nat.le_trans (Nat.mul_le_mul_left _ i) h1
  have e:=Nat.lt_of_mul_lt_mul_right (Nat.lt_of_le_of_lt d f);rw[Nat.mul_add,<-Nat.mul_assoc]at e;have:g*a*4294967296+r*4294967296=T*4294967296:=by rw[<-Nat.add_mul,j]
  omega
theorem wU{U V g a b r T f R:Nat}(i:(T*4294967296+f)*R<=U)(c:(a*4294967296+b)*R<=V)(j:V<(a*4294967296+b+1)*R)(k:g*a+r=T)(ht:g*b<=r*4294967296+f)(q:g<4294967296)(l:2147483648<=a)(m:0<R):g<=U/V+1:=by
 have d:0<V:=Nat.lt_of_lt_of_le (Nat.mul_pos ω m) c
 have h1:g*(a*4294967296+b)<=T*4294967296+f:=by
  rw[Nat.mul_add,<-Nat.mul_assoc];have:g*a*4294967296+r*4294967296=T*4294967296:=by rw[<-Nat.add_mul,k]
  omega
 have n:g*((a*4294967296+b)*R)<=U:=by
  rw[<-Nat.mul_assoc];exact Nat.le_trans (Nat.mul_le_mul_right R h1) i
 have o:g*V<=U+g*R:=by
  have:g*V<=g*((a*4294967296+b+1)*R):=Nat.mul_le_mul_left g (Nat.le_of_lt j)
  have e:g*((a*4294967296+b+1)*R)=g*((a*4294967296+b)*R)+g*R:=by
   rw[Nat.add_mul _ 1 R,Nat.mul_add,Nat.one_mul]
  omega
 have p:g*R<=V:=by
  refine Nat.le_trans (Nat.mul_le_mul_right R ?_) c;have:2147483648*4294967296<=a*4294967296:=Nat.mul_le_mul_right _ l;omega
 cases g with
 |zero=>exact Nat.zero_le _
 |succ g=>
  rw[Nat.add_le_add_iff_right,Nat.le_div_iff_mul_le d];have:(g+1)*V=g*V+V:=by rw[Nat.add_mul,Nat.one_mul]
  omega
theorem tZ{g a r T b c:Nat}(j:g*a+r=T)(d:T=b*4294967296+c)(e:b<=a)(h1:c<4294967296)(k:4294967296<=r):g<4294967296:=by
 rcases Nat.lt_or_ge g 4294967296 with h|h
 ·exact h
 ·exfalso;have f:4294967296*a<=g*a:=Nat.mul_le_mul_right _ h;have i:b*4294967296<=a*4294967296:=Nat.mul_le_mul_right _ e;omega
def seg(b:List Nat)(o k:Nat):Nat:=val ((b.drop o).take k)
theorem vk(a:List Nat)(o:Nat):seg a o 0=0:=by simp[seg,val]
theorem eF(a:List Nat)(o k:Nat):seg a o (k+1)=seg a o k+W k*wd a (o+k):=by
 unfold seg;rw[aN,wd_drop]
theorem vF{b:List Nat}(h:Lim b)(o k:Nat):seg b o k<W k:=by
 unfold seg;refine Nat.lt_of_lt_of_le (cC ((h.drop o).take k)) (mt ?_);rw[List.length_take];omega
theorem rP(a:List Nat)(o k x:Nat):(a.set (o+k) x).drop o=(a.drop o).set k x:=by
 rw[List.drop_set,if_neg ω,Nat.add_sub_cancel_left]
theorem wZ(a:List Nat)(o:Nat){j k:Nat}(x:Nat)(h:j<=k):seg (a.set (o+k) x) o j=seg a o j:=by
 unfold seg;rw[rP,dZ _ _ h]
theorem kJ(a:List Nat)(o k x:Nat)(h:o+k<a.length):seg (a.set (o+k) x) o (k+1)=seg a o k+W k*x:=by
 rw[eF,wZ _ _ _ (Nat.le_refl k),cm h,if_pos rfl]
theorem xJ(a:List Nat)(o k:Nat):seg a o (k+1+1)=(wd a (o+(k+1))*4294967296+wd a (o+k))*W k+seg a o k:=by
 rw[eF,eF,bP,Nat.add_mul,Nat.mul_comm (W k),Nat.mul_comm (wd a (o+(k+1))) 4294967296,Nat.mul_right_comm,Nat.mul_comm _ (wd a (o+(k+1)))];omega
structure Guess (U V T v1 v2 u2 R:Nat):Prop where
 hR:0<R
 hU1:(T*4294967296+u2)*R<=U
 hU2:U<(T*4294967296+u2+1)*R
 hV1:(v1*4294967296+v2)*R<=V
 hV2:V<(v1*4294967296+v2+1)*R
 hv:2147483648<=v1
 hv1:v1<4294967296
 hv2:v2<4294967296
 hu2:u2<4294967296
 hlt:U<V*4294967296
theorem Guess.make{a vs:List Nat}{o k:Nat}(d:Lim a)(b:Lim vs)(j:vs.length=k+1+1)(ht:2147483648<=wd vs (k+1))(c:seg a o (k+1+1+1)<val vs*4294967296):Guess (seg a o (k+1+1+1)) (val vs) (wd a (o+(k+1+1))*4294967296+wd a (o+(k+1))) (wd vs (k+1)) (wd vs k) (wd a (o+k)) (W k):=by
 have f:seg a o (k+1+1+1)=((wd a (o+(k+1+1))*4294967296+wd a (o+(k+1)))*4294967296+wd a (o+k))*W k+seg a o k:=by
  rw[xJ a o (k+1),eF,bP,Nat.add_mul _ _ (W k),Nat.mul_assoc,Nat.mul_comm (W k)];omega
 have i:val vs=(wd vs (k+1)*4294967296+wd vs k)*W k+val (vs.take k):=by
  have h:=xJ vs 0 k;unfold seg at h;rw[List.drop_zero,List.take_of_length_le ω,Nat.zero_add,Nat.zero_add]at h;exact h
 have h1:=vF d o k;have e:=cC (b.take k);rw[List.length_take,Nat.min_eq_left ω]at e;refine⟨gH k,ω,?_,ω,?_,ht,b.wd _,b.wd _,d.wd _,c⟩
 ·rw[Nat.add_mul _ 1 (W k),Nat.one_mul];omega
 ·rw[Nat.add_mul _ 1 (W k),Nat.one_mul];omega
section
variable {U V T v1 v2 u2 R g r:Nat} (G:Guess U V T v1 v2 u2 R)
include G
theorem Guess.vpos:0<V:=Nat.lt_of_lt_of_le (Nat.mul_pos (by have:=G.hv;omega) G.hR) G.hV1
theorem Guess.qlt:U/V<4294967296:=by
 rw[Nat.div_lt_iff_lt_mul G.vpos,Nat.mul_comm];exact G.hlt
theorem Guess.first:U/V<=T/v1:=by
 refine Ci (R:=4294967296*R) (Nat.mul_pos δ G.hR) ?_ ?_ (by have:=G.hv;omega)
 ·refine Nat.lt_of_lt_of_le G.hU2 ?_;rw[<-Nat.mul_assoc];exact Nat.mul_le_mul_right R (by have:=G.hu2;omega)
 ·refine Nat.le_trans ?_ G.hV1;rw[<-Nat.mul_assoc];exact Nat.mul_le_mul_right R ω
theorem Guess.high(a:g*v1+r=T)(ht:r*4294967296+u2<g*v2):U/V<=g-1:=by
 have:=wA G.hU2 G.hV1 a ht rfl;omega
theorem Guess.big(a:4294967296<=g):U/V<=g-1:=by have:=G.qlt;omega
theorem Guess.near(a:g*v1+r=T)(b:g<4294967296)(ht:g*v2<=r*4294967296+u2):g<=U/V+1:=
 wU G.hU1 G.hV1 G.hV2 a ht b G.hv G.hR
theorem Guess.small{b d:Nat}(i:g*v1+r=T)(a:T=b*4294967296+d)(c:d<4294967296)(j:4294967296<=r):g<4294967296:=by
 refine tZ i a ?_ c j;have h1:U<V*4294967296:=G.hlt
 have k:V*4294967296<=(v1+1)*4294967296*R*4294967296:=by
  refine Nat.mul_le_mul_right _ (Nat.le_trans (Nat.le_of_lt G.hV2) (Nat.mul_le_mul_right R ?_));have:=G.hv2;omega
 have l:b*4294967296*4294967296*R<=U:=by
  refine Nat.le_trans (Nat.mul_le_mul_right R ?_) G.hU1;rw[a,Nat.add_mul,Nat.add_assoc];exact Nat.le_add_right _ _
 have f:b*4294967296*4294967296*R<(v1+1)*4294967296*4294967296*R:=by
  have e:(v1+1)*4294967296*R*4294967296=(v1+1)*4294967296*4294967296*R:=(by rw[Nat.mul_right_comm]);omega
 have:=Nat.lt_of_mul_lt_mul_right f;omega
theorem Guess.broke(a:g*v1+r=T)(b:g<4294967296)(c:4294967296<=r):g<=U/V+1:=by
 refine G.near a b ?_;have:=Nat.mul_le_mul (show g<=4294967295 by omega) (show v2<=4294967295 by have:=G.hv2;omega);omega
end
theorem Br{a us0 vs:List Nat}{o i g c b:Nat}(m:o+i<a.length)(n:wd a (o+i)=wd us0 (o+i))(B:b<=1)(C:wd a (o+i)<4294967296)(h:seg a o i+g*val (vs.take i)=seg us0 o i+(c+b)*W i):seg (a.set (o+i) ((wd a (o+i)+4294967296-(c+g*wd vs i)%4294967296-b)%4294967296)) o (i+1)+g*val (vs.take (i+1))=seg us0 o (i+1)+((c+g*wd vs i)/4294967296+(if wd a (o+i)<(c+g*wd vs i)%4294967296+b then 1 else 0))*W (i+1):=by
 rw[kJ _ _ _ _ m,eF us0,aN,bP,<-n];have j:=Nat.div_add_mod (c+g*wd vs i) 4294967296;have p:(c+g*wd vs i)%4294967296<4294967296:=Nat.mod_lt _ δ;generalize(c+g*wd vs i)/4294967296=q at*
 generalize(c+g*wd vs i)%4294967296=d at*
 generalize wd a (o+i)=u at*
 have e:(u+4294967296-d-b)%4294967296+d+b=u+(if u<d+b then 1 else 0)*4294967296:=by split<;>omega
 generalize(if u<d+b then 1 else 0)=f at*
 generalize(u+4294967296-d-b)%4294967296=A at*
 have k:=congrArg (fun t=>W i*t) e;have l:=congrArg (fun t=>W i*t) j;simp only[Nat.mul_add]at k l;have s:W i*(f*4294967296)=f*(4294967296*W i):=by rw[Nat.mul_comm,Nat.mul_assoc]
 have v:W i*(4294967296*q)=q*(4294967296*W i):=by rw[Nat.mul_comm,Nat.mul_right_comm,Nat.mul_comm (4294967296*_)]
 have x:W i*(g*wd vs i)=g*(W i*wd vs i):=Nat.mul_left_comm _ _ _;have y:W i*c=c*W i:=Nat.mul_comm _ _;have z:W i*b=b*W i:=Nat.mul_comm _ _;rw[Nat.add_mul]at h;rw[Nat.mul_add,Nat.add_mul];omega
theorem vX{a us0 vs:List Nat}{o n g c b:Nat}(q:vs.length=n)(j:o+n<a.length)(k:wd a (o+n)=wd us0 (o+n))(l:c+b<=wd a (o+n))(h:seg a o n+g*val (vs.take n)=seg us0 o n+(c+b)*W n)(m:seg us0 o (n+1)/val vs<=g)(p:0<val vs):g=seg us0 o (n+1)/val vs/\seg (a.set (o+n) (wd a (o+n)-c-b)) o (n+1)=seg us0 o (n+1)%val vs:=by
 rw[List.take_of_length_le ω]at h
 have e:seg (a.set (o+n) (wd a (o+n)-c-b)) o (n+1)+g*val vs=seg us0 o (n+1):=by
  rw[kJ _ _ _ _ j,eF us0,<-k,show wd a (o+n)-c-b=wd a (o+n)-(c+b)from ω,Nat.mul_sub,Nat.mul_comm (W n) (c+b)];have:=Nat.mul_le_mul_left (W n) l;rw[Nat.mul_comm (W n) (c+b)]at this;omega
 have d:g<=seg us0 o (n+1)/val vs:=by rw[Nat.le_div_iff_mul_le p];omega
 have f:g=seg us0 o (n+1)/val vs:=Nat.le_antisymm d m;refine⟨f,?_⟩;have i:=Nat.div_add_mod (seg us0 o (n+1)) (val vs);rw[<-f,Nat.mul_comm]at i;omega
theorem tA{a us0 vs:List Nat}{o n g c b:Nat}(j:Lim a)(A:vs.length=n)(q:o+n<a.length)(s:wd a (o+n)=wd us0 (o+n))(B:wd a (o+n)<c+b)(C:c<4294967296)(D:b<=1)(h:seg a o n+g*val (vs.take n)=seg us0 o n+(c+b)*W n)(E:g<=seg us0 o (n+1)/val vs+1)(u:0<val vs):g=seg us0 o (n+1)/val vs+1/\seg (a.set (o+n) ((wd a (o+n)+4294967296-c-b)%4294967296)) o (n+1)+val vs=seg us0 o (n+1)%val vs+W (n+1):=by
 rw[List.take_of_length_le ω]at h;have v:=j.wd (o+n)
 have e:seg (a.set (o+n) ((wd a (o+n)+4294967296-c-b)%4294967296)) o (n+1)+g*val vs=seg us0 o (n+1)+W (n+1):=by
  rw[kJ _ _ _ _ q,eF us0,<-s,bP];have k:(wd a (o+n)+4294967296-c-b)%4294967296+(c+b)=wd a (o+n)+4294967296:=ω
  have l:=congrArg (fun t=>W n*t) k;simp only[Nat.mul_add]at l;rw[Nat.add_mul]at h;have x:W n*c=c*W n:=Nat.mul_comm _ _;have y:W n*b=b*W n:=Nat.mul_comm _ _;omega
 have m:=vF (j.set (i:=o+n) (d:=(wd a (o+n)+4294967296-c-b)%4294967296) (Nat.mod_lt _ δ)) o (n+1)
 have p:seg us0 o (n+1)/val vs<g:=by
  rw[Nat.div_lt_iff_lt_mul u];omega
 have f:g=seg us0 o (n+1)/val vs+1:=ω
 refine⟨f,?_⟩;have z:=Nat.div_add_mod (seg us0 o (n+1)) (val vs);rw[f,Nat.add_mul,Nat.one_mul,Nat.mul_comm (_/_)]at e;omega
theorem Af{a b vs:List Nat}{o i c:Nat}(f:o+i<a.length)(j:wd a (o+i)=wd b (o+i))(h:seg a o i+c*W i=seg b o i+val (vs.take i)):seg (a.set (o+i) ((c+(wd a (o+i)+wd vs i))%4294967296)) o (i+1)+(c+(wd a (o+i)+wd vs i))/4294967296*W (i+1)=seg b o (i+1)+val (vs.take (i+1)):=by
 rw[kJ _ _ _ _ f,eF b,aN,bP,<-j];have d:=Nat.div_add_mod (c+(wd a (o+i)+wd vs i)) 4294967296;generalize(c+(wd a (o+i)+wd vs i))/4294967296=q at*
 generalize(c+(wd a (o+i)+wd vs i))%4294967296=m at*
 have e:=congrArg (fun t=>W i*t) d;simp only[Nat.mul_add]at e;have k:W i*(4294967296*q)=q*(4294967296*W i):=by rw[Nat.mul_comm,Nat.mul_right_comm,Nat.mul_comm (4294967296*_)]
 have l:W i*c=c*W i:=Nat.mul_comm _ _;omega
theorem CQ{a b vs:List Nat}{o n c R:Nat}(d:Lim a)(t:vs.length=n)(k:o+n<a.length)(l:wd a (o+n)=wd b (o+n))(h:seg a o n+c*W n=seg b o n+val (vs.take n))(h1:seg b o (n+1)+val vs=R+W (n+1))(u:R<W n):seg (a.set (o+n) ((wd a (o+n)+c)%4294967296)) o (n+1)=R:=by
 rw[List.take_of_length_le ω]at h;rw[kJ _ _ _ _ k];rw[eF,<-l,bP]at h1;have m:=d.wd (o+n);have hs:=vF d o n
 have e:seg a o n+W n*(wd a (o+n)+c)=R+W n*4294967296:=by
  rw[Nat.mul_add,Nat.mul_comm (W n) c];omega
 have f:wd a (o+n)+c=4294967296:=by
  have p:=gH n;have i:W n*(wd a (o+n)+c)<W n*4294967297:=ω
  have j:W n*4294967295<W n*(wd a (o+n)+c):=ω;have q:=Nat.lt_of_mul_lt_mul_left i;have s:=Nat.lt_of_mul_lt_mul_left j;omega
 rw[f]at e ⊢;rw[Nat.mod_self];omega
theorem zl(V k:Nat):V%W (k+1)=V%W k+W k*(V/W k%4294967296):=by
 rw[bP,Nat.mul_comm,Nat.mod_mul]
theorem ma(s:Nat):2^s=2^(s%32)*W (s/32):=by
 rw[dj,<-Nat.pow_add,show s%32+32*(s/32)=s from by omega]
theorem DJ(Y r:Nat)(a:r<=32):Y/2^r%4294967296=Y%18446744073709551616/2^r%4294967296:=by
 have e:18446744073709551616=2^r*(2^(32-r)*4294967296):=by
  rw[<-Nat.mul_assoc,<-Nat.pow_add,show r+(32-r)=32 from by omega]
 rw[e,Nat.mod_mul_right_div_self,Nat.mod_mul_left_mod]
theorem zv{l:List Nat}(h:Lim l)(j:Nat):wd l j+wd l (j+1)*4294967296=val l/W j%18446744073709551616:=by
 rw[dP h,dP h,bP,Nat.mul_comm 4294967296 (W j),<-Nat.div_div_eq_div_mul];generalize val l/W j=Y;omega
theorem AM{l:List Nat}(h:Lim l)(d r i:Nat)(a:r<=32):(wd l (d+i)+wd l (d+i+1)*4294967296)/2^r%4294967296=val l/(2^r*W d)/W i%4294967296:=by
 rw[zv h,<-DJ _ _ a,Nat.div_div_eq_div_mul,Nat.div_div_eq_div_mul,oA,Nat.mul_comm (W d*W i),Nat.mul_assoc]
theorem nM(f x:Nat)(h:x<2^f):x<2^Lib.bitLenAux f x/\(x≠0->2^(Lib.bitLenAux f x-1)<=x)/\Lib.bitLenAux f x<=f:=by
 induction f generalizing x with
 |zero=>simp[Lib.bitLenAux]at*;omega
 |succ f ih=>
  by_cases h0:x=0
  ·subst h0;simp[Lib.bitLenAux]
  ·have a:=ih (x/2) (by rw[Nat.pow_succ]at h;omega);have e:Lib.bitLenAux (f+1) x=Lib.bitLenAux f (x/2)+1:=by simp[Lib.bitLenAux,h0];omega
   rw[e];obtain⟨h1,g,k⟩:=a;refine⟨by rw[Nat.pow_succ];omega,fun _=>?_,ω⟩;rw[Nat.add_sub_cancel];by_cases c:x/2=0
   ·have:x=1:=ω;subst this;have:Lib.bitLenAux f (1/2)=0:=by cases f<;>simp[Lib.bitLenAux]
    rw[this];decide
   ·have b:=g c
    have d:Lib.bitLenAux f (x/2)≠0:=by
     intro j;rw[j]at h1;simp at h1;omega
    obtain⟨m,i⟩: ∃m,Lib.bitLenAux f (x/2)=m+1:=⟨_,(Nat.succ_pred_eq_of_ne_zero d).symm⟩;rw[i]at b ⊢;rw[Nat.add_sub_cancel]at b;rw[Nat.pow_succ];omega
theorem nO{x:Nat}(h:x<4294967296):x<2^Lib.bitLen x/\(x≠0->2^(Lib.bitLen x-1)<=x)/\Lib.bitLen x<=32/\(x≠0->1<=Lib.bitLen x):=by
 obtain⟨h1,b,_⟩:=nM 64 x (Nat.lt_of_lt_of_le h δ)
 have c:x≠0->1<=Lib.bitLen x:=fun a=>by
  rcases Nat.eq_zero_or_pos (Lib.bitLen x)with e|e
  ·unfold Lib.bitLen at e;rw[e]at h1;simp at h1;omega
  ·exact e
 refine⟨h1,b,?_,c⟩;by_cases a:x=0
 ·subst a;decide
 ·have d:=b a;rcases Nat.lt_or_ge 32 (Lib.bitLen x)with h5|h5
  ·exfalso;have:=Nat.pow_le_pow_right (n:=2) δ (show 32<=Lib.bitLenAux 64 x-1 by unfold Lib.bitLen at h5;omega);have e:2^32=4294967296:=rfl;omega
  ·exact h5
def dN(n:Nat):Nat:=if n=0 then 0 else Nat.log2 n+1
theorem kz(n:Nat):n<2^dN n/\(n≠0->2^(dN n-1)<=n):=by
 unfold dN;split
 ·subst n;simp
 ·rename_i h;refine⟨Nat.lt_log2_self,fun _=>?_⟩;rw[Nat.add_sub_cancel];exact Nat.log2_self_le h
theorem sL{n b:Nat}(h1:n<2^b)(f:n≠0->2^(b-1)<=n)(h0:n=0->b=0):dN n=b:=by
 by_cases h:n=0
 ·rw[h0 h,h];rfl
 ·obtain⟨c,d⟩:=kz n;have a:=(Nat.pow_lt_pow_iff_right (show 1<2 by decide)).1 (Nat.lt_of_le_of_lt (f h) c);have g:=(Nat.pow_lt_pow_iff_right (show 1<2 by decide)).1 (Nat.lt_of_le_of_lt (d h) h1);have i:b≠0:=by intro e;subst e;simp at h1;omega
  have j:dN n≠0:=(by intro e;rw[e]at c;simp at c;omega);omega
theorem bitsN_le{n b:Nat}:dN n<=b↔n<2^b:=by
 obtain⟨a,c⟩:=kz n;constructor
 ·intro h;exact Nat.lt_of_lt_of_le a (Nat.pow_le_pow_right δ h)
 ·intro h;by_cases h0:n=0
  ·rw[h0];exact Nat.zero_le _
  ·have:=(Nat.pow_lt_pow_iff_right (show 1<2 by decide)).1 (Nat.lt_of_le_of_lt (c h0) h);omega
theorem yZ{l:List Nat}{k:Nat}(a:Lim l)(g:l.length=k+1)(h0:wd l k≠0):dN (val l)=32*k+Lib.bitLen (wd l k):=by
 have e:=dm (l:=l) (k:=k) ω;rw[List.take_of_length_le ω]at e;have h1:=cC (a.take k);rw[List.length_take,Nat.min_eq_left ω]at h1;obtain⟨b,c,f,d⟩:=nO (a.wd k);have p:=gH k;apply sL
 ·rw[Nat.pow_add,<-dj,e];have:=Nat.mul_le_mul_left (W k) (show wd l k+1<=2^Lib.bitLen (wd l k)from b);rw[Nat.mul_add]at this;omega
 ·intro _;rw[show 32*k+Lib.bitLen (wd l k)-1=32*k+(Lib.bitLen (wd l k)-1)from by have:=d h0;omega,Nat.pow_add,<-dj,e];have:=Nat.mul_le_mul_left (W k) (c h0);omega
 ·intro h;exfalso;have:=Nat.mul_le_mul_left (W k) (show 1<=wd l k by omega);omega
theorem mj{l:List Nat}{k:Nat}(a:fN l)(b:l.length=k+1):wd l k≠0:=by
 intro h;apply a;rw[List.getLast?_eq_getElem?,b,Nat.add_sub_cancel,List.getElem?_eq_getElem ω,<-wd_lt ω,h]
structure Hp where
 ws:List Nat
 st:List Bool
 rt:List Nat
 size:Nat
 last:Nat
structure Hd where
 size:Nat
 fmt:Nat
 spare:Nat
 cls:Nat
 ser:Nat
structure Hd.Ok (h:Hd):Prop where
 size:h.size<=65535
 f1:1<=h.fmt
 f4:h.fmt<=4
 spare:h.spare<=3
 sp:h.spare=0∨(h.fmt=2/\0<h.size)
def Hd.w0(h:Hd):Nat:=h.size+h.fmt*16777216+h.spare*134217728
def unp(a c s:Nat):Hd:=⟨a%16777216,a/16777216%8,a/134217728%4,c,s⟩
theorem Hd.w0_lt{h:Hd}(k:h.Ok):h.w0<536870912:=by
 have:=k.size;have:=k.f4;have:=k.spare;unfold Hd.w0;omega
theorem CA{h:Hd}(k:h.Ok):unp h.w0 h.cls h.ser=h:=by
 obtain⟨a,b,c,d,e⟩:=h;have h1:a<=65535:=k.size;have g:b<=4:=k.f4;have i:c<=3:=k.spare;have f:Hd.w0 ⟨a,b,c,d,e⟩=a+b*16777216+c*134217728:=rfl;rw[f];unfold unp;rw[Hd.mk.injEq];refine⟨?_,?_,?_,rfl,rfl⟩<;>omega
theorem fQ(a:Nat)(l:List Nat):wd (a :: l) 0=a:=rfl
theorem dc(a:Nat)(l:List Nat)(i:Nat):wd (a :: l) (i+1)=wd l i:=rfl
theorem Cf{a c s:Nat}(h:a<536870912):(unp a c s).w0=a:=by
 unfold unp Hd.w0;simp only;omega
def bi(h:Hp)(i:Nat):Bool:=h.st.getD i false
def hd(h:Hp)(i:Nat):Hd:=unp (wd h.ws i) (wd h.ws (i+1)) (wd h.ws (i+2))
structure Good (h:Hp):Prop where
 len:h.st.length=h.ws.length
 lim:Lim h.ws
 rlim:Lim h.rt
 rlen:h.rt.length=64
 pos:1<=h.ws.length
 fits:h.ws.length<=h.size
 s64:64<=h.size
 sM:h.size<=1048576
 last:h.last<4294967296
 first: ∀i,bi h i=true->1<=i
 inside: ∀i,bi h i=true->i+3+(hd h i).size<=h.ws.length
 ok: ∀i,bi h i=true->(hd h i).Ok/\wd h.ws i<536870912
 apart: ∀i j,bi h i=true->bi h j=true->i<j->i+3+(hd h i).size<=j
 spz: ∀i,bi h i=true->(hd h i).fmt=2->0<(hd h i).spare->wd h.ws (i+2+(hd h i).size)<2^(32-8*(hd h i).spare)
theorem fS{h:Hp}{i:Nat}(k:bi h i=true):i<h.st.length:=by
 unfold bi at k;rw[List.getD_eq_getElem?_getD]at k;by_cases a:i<h.st.length
 ·exact a
 ·rw[List.getElem?_eq_none ω]at k;cases k
def isO(h:Hp)(o:Nat):Bool:=decide (o≠0)&&decide (o%2=0)&&bi h (o/2)
theorem isO_iff{h:Hp}{o:Nat}:isO h o=true↔o≠0/\o%2=0/\bi h (o/2)=true:=by
 unfold isO;simp[and_assoc]
def dS(h:Hp)(o:Nat):Bool:=decide (o=0)||decide (o%2=1)||isO h o
def cU(h:Hp)(o:Nat):Bool:=decide (o=0)||isO h o
def hdO(h:Hp)(o:Nat):Hd:=hd h (o/2)
def Hd.len(x:Hd):Nat:=if x.fmt=2 then 4*x.size-x.spare else x.size
def fld(h:Hp)(o i:Nat):Nat:=wd h.ws (o/2+3+i)
def de(h:Hp)(n:Nat):Bool:=decide (h.ws.length+3+n<=h.size)&&decide (h.last≠4294967295)
def bU(h:Hp)(f spare c:Nat)(fs:List Nat):Hp:=
 {ws:=h.ws++(Hd.w0 ⟨fs.length,f,spare,c,h.last+1⟩ :: c :: (h.last+1) :: fs),st:=h.st++(true :: List.replicate (2+fs.length) false),rt:=h.rt,size:=h.size,last:=h.last+1}
def kR(h:Hp):Nat:=2*h.ws.length
theorem gW(h:Hp)(f spare c:Nat)(fs:List Nat):(bU h f spare c fs).ws.length=h.ws.length+3+fs.length:=by
 unfold bU;simp;omega
theorem iX(h:Hp)(f spare c:Nat)(fs:List Nat){i:Nat}(a:i<h.ws.length):wd (bU h f spare c fs).ws i=wd h.ws i:=by
 unfold bU;exact eC a
theorem iS(h:Hp)(f spare c:Nat)(fs:List Nat)(i:Nat):wd (bU h f spare c fs).ws (h.ws.length+i)=wd (Hd.w0 ⟨fs.length,f,spare,c,h.last+1⟩ :: c :: (h.last+1) :: fs) i:=by
 unfold bU;rw[eP ω,Nat.add_sub_cancel_left]
theorem jc(h:Hp)(f spare c:Nat)(fs:List Nat)(k:Good h)(i:Nat):bi (bU h f spare c fs) i=if i=h.ws.length then true else bi h i:=by
 unfold bU bi;simp only[List.getD_eq_getElem?_getD];by_cases h1:i<h.st.length
 ·rw[List.getElem?_append_left h1,if_neg (by rw[<-k.len];omega)]
 ·rw[List.getElem?_append_right ω];by_cases a:i=h.ws.length
  ·rw[if_pos a,k.len,a,Nat.sub_self];rfl
  ·rw[if_neg a,List.getElem?_eq_none (l:=h.st) ω];obtain⟨j,d⟩: ∃j,i-h.st.length=j+1:=⟨i-h.st.length-1,by have:=k.len;omega⟩;rw[d,List.getElem?_cons_succ];by_cases b:j<2+fs.length
   ·rw[List.getElem?_replicate,if_pos b];rfl
   ·rw[List.getElem?_replicate,if_neg b]
theorem gP{h:Hp}{f spare c:Nat}{fs:List Nat}(k:(⟨fs.length,f,spare,c,h.last+1⟩:Hd).Ok):hd (bU h f spare c fs) h.ws.length=⟨fs.length,f,spare,c,h.last+1⟩:=by
 unfold hd;have a:=iS h f spare c fs 0;have b:=iS h f spare c fs 1;have d:=iS h f spare c fs 2;rw[Nat.add_zero,fQ]at a;rw[dc,fQ]at b;rw[(φ:(2:Nat)=0+1+1),dc,dc,fQ]at d;rw[a,b,d];exact CA k
theorem nC{h:Hp}(k:Good h){f spare c:Nat}{fs:List Nat}{i:Nat}(a:bi h i=true):hd (bU h f spare c fs) i=hd h i:=by
 have:=k.inside i a;unfold hd;rw[iX _ _ _ _ _ ω,iX _ _ _ _ _ ω,iX _ _ _ _ _ ω]
theorem Good.add{h:Hp}(k:Good h){f spare c:Nat}{fs:List Nat}(A:de h fs.length=true)(d:(⟨fs.length,f,spare,c,h.last+1⟩:Hd).Ok)(G:c<4294967296)(H:Lim fs)(I:f=2->0<spare->wd fs (fs.length-1)<2^(32-8*spare)):Good (bU h f spare c fs):=by
 unfold de at A;rw[Bool.and_eq_true,decide_eq_true_eq,decide_eq_true_eq]at A;have r:=k.last;have o:=gW h f spare c fs;have E:=jc h f spare c fs k
 have a: ∀{i},bi (bU h f spare c fs) i=true->i=h.ws.length∨bi h i=true:=fun{i} b=>by
  rw[E]at b;by_cases e:i=h.ws.length
  ·exact .inl e
  ·rw[if_neg e]at b;exact .inr b
 have q:wd (bU h f spare c fs).ws h.ws.length<536870912:=by
  have B:=iS h f spare c fs 0;rw[Nat.add_zero,fQ]at B;rw[B];exact Hd.w0_lt d
 refine⟨?_,?_,k.rlim,k.rlen,ω,by rw[o];exact A.1,k.s64,k.sM,by show h.last+1<_;omega,?_,?_,?_,?_,?_⟩
 ·rw[o];show(h.st++_).length=_
  rw[List.length_append,k.len];simp;omega
 ·refine k.lim.append (Lim.cons ?_ (Lim.cons G (Lim.cons ω H)));have:=Hd.w0_lt d;omega
 ·intro i b;rcases a b with rfl|b
  ·exact k.pos
  ·exact k.first i b
 ·intro i b;rw[o];rcases a b with rfl|b
  ·rw[gP d];simp
  ·rw[nC k b];have:=k.inside i b;omega
 ·intro i b;rcases a b with rfl|b
  ·rw[gP d];exact⟨d,q⟩
  ·rw[nC k b,iX _ _ _ _ _ (by have:=fS b;rw[k.len]at this;exact this)];exact k.ok i b
 ·intro i j b p x;rcases a b with rfl|b
  ·rcases a p with rfl|p
   ·omega
   ·have:=fS p;rw[k.len]at this;omega
  ·rw[nC k b];rcases a p with rfl|p
   ·exact k.inside i b
   ·exact k.apart i j b p x
 ·intro i b;rcases a b with rfl|b
  ·rw[gP d];intro y z;have u:f=2:=y;have v:0<spare:=z;show wd _ (h.ws.length+2+fs.length)<_
   have hs:=d.sp;have C:0<fs.length:=by rcases hs with hs|⟨_,hs⟩<;>simp at hs<;>omega
   obtain⟨m,D⟩: ∃m,fs.length=m+1:=⟨fs.length-1,ω⟩;rw[Nat.add_assoc,iS,D,(ω:2+(m+1)=m+1+1+1),dc,dc,dc];have:=I u v
   rwa [D,Nat.add_sub_cancel]at this
  ·rw[nC k b];intro y z;have F:=k.inside i b;rw[iX _ _ _ _ _ ω];exact k.spz i b y z
def putW(h:Hp)(i v:Nat):Hp:={h with ws:=h.ws.set i v}
theorem ie(h:Hp)(i v:Nat):(putW h i v).ws.length=h.ws.length:=by unfold putW;simp
theorem uE(h:Hp)(i v j:Nat):bi (putW h i v) j=bi h j:=rfl
theorem gM(h:Hp){i v:Nat}(a:i<h.ws.length)(j:Nat):wd (putW h i v).ws j=if j=i then v else wd h.ws j:=cm a j
theorem nj{h:Hp}(k:Good h){i n v:Nat}(a:bi h i=true)(f:n<(hd h i).size){j:Nat}(b:bi h j=true):hd (putW h (i+3+n) v) j=hd h j:=by
 have h1:=k.inside i a;have c:=k.inside j b
 have d:j+2<i+3+n∨i+3+n<j:=by
  rcases Nat.lt_trichotomy i j with e|e|e
  ·have:=k.apart i j a b e;omega
  ·omega
  ·have:=k.apart j i b a e;omega
 unfold hd;rw[gM h ω,gM h ω,gM h ω,if_neg ω,if_neg ω,if_neg ω]
theorem Good.putW{h:Hp}(k:Good h){i n v:Nat}(d:bi h i=true)(C:n<(hd h i).size)(D:v<4294967296)(E:(hd h i).fmt=2->0<(hd h i).spare->n+1=(hd h i).size->v<2^(32-8*(hd h i).spare)):Good (putW h (i+3+n) v):=by
 have B:=k.inside i d;have g:=fun j (c:bi h j=true)=>nj (v:=v) k d C c
 have F:=uE h (i+3+n) v;have l:=ie h (i+3+n) v;have u:=gM h (i:=i+3+n) (v:=v) ω;refine⟨by rw[l];exact k.len,k.lim.set D,k.rlim,k.rlen,by rw[l];exact k.pos,by rw[l];exact k.fits,k.s64,k.sM,k.last,fun j c=>k.first j c,fun j c=>?_,fun j c=>?_,fun a b A o q=>?_,fun j c=>?_⟩
 ·rw[g j c,l];exact k.inside j c
 ·rw[g j c];refine⟨(k.ok j c).1,?_⟩;rw[u];split
  ·rename_i e;have h1:=k.inside j c;rcases Nat.lt_trichotomy i j with e'|e'|e'
   ·have:=k.apart i j d c e';omega
   ·omega
   ·have:=k.apart j i c d e';omega
  ·exact(k.ok j c).2
 ·rw[g a A];exact k.apart a b A o q
 ·rw[g j c];intro x y;rw[u];have h1:=k.inside j c;split
  ·rename_i e
   have:j=i:=by
    rcases Nat.lt_trichotomy i j with e'|e'|e'
    ·have:=k.apart i j d c e';omega
    ·exact e'.symm
    ·have:=k.apart j i c d e';omega
   subst this;exact E x y ω
  ·exact k.spz j c x y
theorem yl{h:Hp}(k:Good h){i c:Nat}(a:bi h i=true){j:Nat}(b:bi h j=true):hd (putW h (i+1) c) j=if j=i then{hd h i with cls:=c}else hd h j:=by
 have h1:=k.inside i a;have d:=k.inside j b;unfold hd;rw[gM h ω,gM h ω,gM h ω];by_cases e:j=i
 ·subst e;rw[if_pos rfl,if_neg ω,if_pos rfl,if_neg ω];rfl
 ·rw[if_neg e]
  have f:j+3<=i∨i+3<=j:=by
   rcases Nat.lt_trichotomy i j with e'|e'|e'
   ·have:=k.apart i j a b e';omega
   ·omega
   ·have:=k.apart j i b a e';omega
  rw[if_neg ω,if_neg ω,if_neg ω]
theorem Good.setC{h:Hp}(k:Good h){i c:Nat}(o:bi h i=true)(L:c<4294967296):Good (Limb.putW h (i+1) c):=by
 have E:=k.inside i o;have F:=fun j (d:bi h j=true)=>yl (c:=c) k o d
 have q:=ie h (i+1) c;have C:=gM h (i:=i+1) (v:=c) ω
 have g: ∀j,bi h j=true->(hd (Limb.putW h (i+1) c) j).size=(hd h j).size/\(hd (Limb.putW h (i+1) c) j).fmt=(hd h j).fmt/\(hd (Limb.putW h (i+1) c) j).spare=(hd h j).spare:=fun j d=>by
  rw[F j d];split
  ·rename_i e;subst e;exact⟨rfl,rfl,rfl⟩
  ·exact⟨rfl,rfl,rfl⟩
 have y: ∀j,bi h j=true->j≠i+1:=fun j d e=>by
  have:=k.apart i j o d ω;omega
 refine⟨by rw[q];exact k.len,k.lim.set L,k.rlim,k.rlen,by rw[q];exact k.pos,by rw[q];exact k.fits,k.s64,k.sM,k.last,fun j d=>k.first j d,fun j d=>?_,fun j d=>?_,fun a b D A B=>?_,fun j d=>?_⟩
 ·rw[(g j d).1,q];exact k.inside j d
 ·obtain⟨u,l,x⟩:=g j d;obtain⟨n,G⟩:=k.ok j d;refine⟨⟨by rw[u];exact n.size,by rw[l];exact n.f1,by rw[l];exact n.f4,by rw[x];exact n.spare,by rw[u,l,x];exact n.sp⟩,?_⟩;rw[C,if_neg (y j d)];exact G
 ·rw[(g a D).1];exact k.apart a b D A B
 ·obtain⟨u,l,x⟩:=g j d;rw[u,l,x];intro H I;have h1:=k.inside j d;rw[C,if_neg ?_]
  ·exact k.spz j d H I
  ·intro e
   have:j=i:=by
    rcases Nat.lt_trichotomy i j with e'|e'|e'
    ·have:=k.apart i j o d e';omega
    ·exact e'.symm
    ·have:=k.apart j i d o e';omega
   subst this
   have M:0<(hd h j).size:=by
    have:=(k.ok j d).1.sp;omega
   omega
def setR(h:Hp)(i v:Nat):Hp:={h with rt:=h.rt.set i v}
theorem Good.setR{h:Hp}(k:Good h){i v:Nat}(a:v<4294967296):Good (setR h i v):=
 ⟨k.len,k.lim,k.rlim.set a,by show(h.rt.set i v).length=64;rw[List.length_set];exact k.rlen,k.pos,k.fits,k.s64,k.sM,k.last,k.first,k.inside,k.ok,k.apart,k.spz⟩
def cG(n:Nat):Hp:=⟨[0],[false],List.replicate 64 0,n,0⟩
theorem dC{n:Nat}(h1:64<=n)(b:n<=1048576):Good (cG n):=by
 have a: ∀i,bi (cG n) i=true->False:=fun i h=>by
  have:=fS h;have:i=0:=by simpa[cG]using this
  subst this;cases h
 exact⟨rfl,Lim.cons δ Lim.nil,Lim.replicate _ δ,by simp[cG],by simp[cG],by show 1<=n;omega,h1,b,by show 0<_;decide,fun i h=>(a i h).elim,fun i h=>(a i h).elim,fun i h=>(a i h).elim,fun i j h=>(a i h).elim,fun i h=>(a i h).elim⟩
structure Lin (a b x y A B C D u v:Nat) (odd:Bool):Prop where
 sx:odd=true->C*a=D*b+x
 sy:odd=true->v*b=u*a+y
 ex:odd=false->D*b=C*a+x
 ey:odd=false->u*a=v*b+y
 d1:odd=true->C*v=D*u+1
 d2:odd=false->D*u=C*v+1
 za:v*x+D*y=a
 uv:u<=v
 yx:y<=x
 v1:1<=v
 dv:D<=v
 fst:(A=0/\B=0/\C=1/\D=0/\u=0/\v=1)∨(C<=D/\1<=D/\D<=x/\(B≠0->A<=B)/\∃xp,x+B+D<=xp/\(odd=true->B*b=A*a+xp/\B*C=A*D+1)/\(odd=false->A*a=B*b+xp/\A*D=B*C+1))
theorem Lin.start{a b:Nat}(h:b<=a):Lin a b a b 0 0 1 0 0 1 true:=
 ⟨fun _=>ω,fun _=>ω,fun h=>(by cases h),fun h=>(by cases h),fun _=>ω,fun h=>(by cases h),ω,ω,h,ω,ω,.inl ⟨rfl,rfl,rfl,rfl,rfl,rfl⟩⟩
theorem Lin.step{a b x y A B C D u v:Nat}{d:Bool}(h:Lin a b x y A B C D u v d)(z:v<=y)(N:D+v<=x-y):Lin a b y (x%y) C D u v (C+x/y*u) (D+x/y*v) (!d):=by
 obtain⟨g,j,l,m,k,o,I,p,L,t,M,c⟩:=h;have s:0<y:=ω
 have E:1<=x/y:=by rw[Nat.le_div_iff_mul_le s];omega
 have F:=Nat.div_add_mod x y;have H:=Nat.mod_lt x s;generalize x/y=q at*
 generalize x%y=r at*
 have e:C+q*u<=D+q*v:=by
  rcases c with⟨_,_,rfl,rfl,rfl,rfl⟩|⟨h1,_⟩
  ·omega
  ·have:=Nat.mul_le_mul_left q p;omega
 have G:v<=q*v:=Nat.le_mul_of_pos_left v E
 have f:D≠0->C<=D:=by
  rcases c with⟨_,_,_,rfl,_⟩|⟨h1,_⟩
  ·intro h;exact absurd rfl h
  ·exact fun _=>h1
 clear c;cases d with
 |true=>
  have g:=g rfl;have j:=j rfl;have k:=k rfl;refine⟨fun h=>(by cases h),fun h=>(by cases h),fun _=>by rw[j],fun _=>by grind,fun h=>(by cases h),fun _=>by grind,by grind,e,ω,ω,ω,.inr ⟨p,t,z,f,x,ω,fun h=>(by cases h),fun _=>⟨g,k⟩⟩⟩
 |false=>
  have l:=l rfl;have m:=m rfl;have o:=o rfl;refine⟨fun _=>m,fun _=>by grind,fun h=>(by cases h),fun h=>(by cases h),fun _=>by grind,fun h=>(by cases h),by grind,e,ω,ω,ω,.inr ⟨p,t,z,f,x,ω,fun _=>⟨l,o⟩,fun h=>(by cases h)⟩⟩
structure Made (X Y A B C D X' Y':Nat) (odd:Bool):Prop where
 oX:odd=true->B*Y=A*X+X'
 oY:odd=true->C*X=D*Y+Y'
 eX:odd=false->A*X=B*Y+X'
 eY:odd=false->D*Y=C*X+Y'
 le:Y'<=X'
 X_eq:X=D*X'+B*Y'
 Y_eq:Y=C*X'+A*Y'
theorem Bz{X Y A B C D a b:Nat}(h1:B*Y=A*X+a)(f:C*X=D*Y+b)(g:B*C=A*D+1):X=D*a+B*b:=by
 have c:D*(B*Y)=D*(A*X+a):=congrArg (D* ·) h1;have d:B*(C*X)=B*(D*Y+b):=congrArg (B* ·) f;have e:(B*C)*X=(A*D+1)*X:=congrArg (· *X) g;rw[Nat.mul_add]at c d;rw[Nat.add_mul,Nat.one_mul]at e;have i:D*(B*Y)=B*(D*Y):=Nat.mul_left_comm _ _ _;have j:D*(A*X)=A*D*X:=by rw[<-Nat.mul_assoc,Nat.mul_comm D A]
 have k:B*(C*X)=B*C*X:=(Nat.mul_assoc _ _ _).symm;omega
theorem BG{X Y A B C D a b:Nat}(h1:B*Y=A*X+a)(f:C*X=D*Y+b)(g:B*C=A*D+1):Y=C*a+A*b:=by
 have c:C*(B*Y)=C*(A*X+a):=congrArg (C* ·) h1;have d:A*(C*X)=A*(D*Y+b):=congrArg (A* ·) f;have e:(B*C)*Y=(A*D+1)*Y:=congrArg (· *Y) g;rw[Nat.mul_add]at c d;rw[Nat.add_mul,Nat.one_mul]at e;have i:C*(B*Y)=B*C*Y:=by rw[<-Nat.mul_assoc,Nat.mul_comm C B]
 have j:C*(A*X)=A*(C*X):=Nat.mul_left_comm _ _ _;have k:A*(D*Y)=A*D*Y:=(Nat.mul_assoc _ _ _).symm;omega
theorem Lin.made{a b x y A B C D u v H α β X Y:Nat}{k:Bool}(h:Lin a b x y A B C D u v k)(M:B≠0)(S:α<H)(T:β<H)(hX:X=a*H+α)(m:Y=b*H+β): ∃f g,Made X Y A B C D f g k:=by
 obtain⟨n,F,t,G,I,L,U,V,Z,v1,dv,E⟩:=h;rcases E with⟨_,h0,_⟩|⟨hCD,hD1,hDx,l,xp,hxp,ho,j⟩
 ·exact absurd h0 M
 have l:=l M;cases k with
 |true=>
  have n:=n rfl;obtain⟨R,i⟩:=ho rfl;clear F t G I L ho j;have N:A*α<=xp*H:=Nat.mul_le_mul ω ω;have O:D*β<=x*H:=Nat.mul_le_mul hDx ω;have o:(C+A)*α<=(xp-x)*H:=Nat.mul_le_mul ω ω;obtain⟨e,j⟩: ∃e,xp=x+e:=⟨xp-x,ω⟩;subst j;rw[Nat.add_sub_cancel_left]at o;have p:B*Y=A*a*H+(x+e)*H+B*β:=by rw[m];grind
  have q:A*X=A*a*H+A*α:=(by rw[hX];grind);have r:C*X=D*b*H+x*H+C*α:=by rw[hX];grind
  have s:D*Y=D*b*H+D*β:=(by rw[m];grind);have P:(x+e)*H=x*H+e*H:=Nat.add_mul _ _ _;have Q:(C+A)*α=C*α+A*α:=Nat.add_mul _ _ _;obtain⟨f,c⟩: ∃f,B*Y=A*X+f:=⟨B*Y-A*X,ω⟩;obtain⟨g,d⟩: ∃g,C*X=D*Y+g:=⟨C*X-D*Y,ω⟩;refine⟨f,g,fun _=>c,fun _=>d,fun h=>(by cases h),fun h=>(by cases h),ω,Bz c d i,BG c d i⟩
 |false=>
  have t:=t rfl;obtain⟨R,i⟩:=j rfl;clear n F G I L ho j;have N:B*β<=xp*H:=Nat.mul_le_mul ω ω;have O:C*α<=x*H:=Nat.mul_le_mul ω ω;have o:(D+B)*β<=(xp-x)*H:=Nat.mul_le_mul ω ω;obtain⟨e,j⟩: ∃e,xp=x+e:=⟨xp-x,ω⟩;subst j;rw[Nat.add_sub_cancel_left]at o;have q:A*X=B*b*H+(x+e)*H+A*α:=by rw[hX];grind
  have p:B*Y=B*b*H+B*β:=(by rw[m];grind);have s:D*Y=C*a*H+x*H+D*β:=by rw[m];grind
  have r:C*X=C*a*H+C*α:=(by rw[hX];grind);have P:(x+e)*H=x*H+e*H:=Nat.add_mul _ _ _;have Q:(D+B)*β=D*β+B*β:=Nat.add_mul _ _ _;obtain⟨f,c⟩: ∃f,A*X=B*Y+f:=⟨A*X-B*Y,ω⟩;obtain⟨g,d⟩: ∃g,D*Y=C*X+g:=⟨D*Y-C*X,ω⟩;refine⟨f,g,fun h=>(by cases h),fun h=>(by cases h),fun _=>c,fun _=>d,ω,(by have h:=BG (X:=Y) (Y:=X) c d i;have z:=Bz (X:=Y) (Y:=X) c d i;first |exact h|exact z),(by have h:=BG (X:=Y) (Y:=X) c d i;have z:=Bz (X:=Y) (Y:=X) c d i;first |exact h|exact z)⟩
theorem Made.gcd{X Y A B C D b c:Nat}{a:Bool}(h:Made X Y A B C D b c a):Nat.gcd b c=Nat.gcd X Y:=by
 obtain⟨d,e,f,g,_,hX,i⟩:=h;refine Nat.dvd_antisymm (Nat.dvd_gcd ?_ ?_) (Nat.dvd_gcd ?_ ?_)
 ·rw[hX];exact Nat.dvd_add (Nat.dvd_mul_left_of_dvd (Nat.gcd_dvd_left _ _) _) (Nat.dvd_mul_left_of_dvd (Nat.gcd_dvd_right _ _) _)
 ·rw[i];exact Nat.dvd_add (Nat.dvd_mul_left_of_dvd (Nat.gcd_dvd_left _ _) _) (Nat.dvd_mul_left_of_dvd (Nat.gcd_dvd_right _ _) _)
 ·cases a with
  |true=>
   have k:=Nat.dvd_mul_left_of_dvd (Nat.gcd_dvd_right X Y) B;rw[d rfl]at k;exact(Nat.dvd_add_right (Nat.dvd_mul_left_of_dvd (Nat.gcd_dvd_left X Y) A)).1 k
  |false=>
   have k:=Nat.dvd_mul_left_of_dvd (Nat.gcd_dvd_left X Y) A;rw[f rfl]at k;exact(Nat.dvd_add_right (Nat.dvd_mul_left_of_dvd (Nat.gcd_dvd_right X Y) B)).1 k
 ·cases a with
  |true=>
   have k:=Nat.dvd_mul_left_of_dvd (Nat.gcd_dvd_left X Y) C;rw[e rfl]at k;exact(Nat.dvd_add_right (Nat.dvd_mul_left_of_dvd (Nat.gcd_dvd_right X Y) D)).1 k
  |false=>
   have k:=Nat.dvd_mul_left_of_dvd (Nat.gcd_dvd_right X Y) D;rw[g rfl]at k;exact(Nat.dvd_add_right (Nat.dvd_mul_left_of_dvd (Nat.gcd_dvd_left X Y) C)).1 k
theorem Made.less{X Y A B C D a b:Nat}{c:Bool}(h:Made X Y A B C D a b c)(d:B≠0)(e:1<=D)(i:0<Y):a+b<X+Y/\a<=X/\b<=X:=by
 have h1:a<=D*a:=Nat.le_mul_of_pos_left _ e;have f:b<=B*b:=Nat.le_mul_of_pos_left _ (Nat.pos_of_ne_zero d);have g:=h.X_eq;omega
theorem Lin.D_pos{a b x y A B C D u v:Nat}{c:Bool}(h:Lin a b x y A B C D u v c)(d:B≠0):1<=D:=by
 rcases h.fst with⟨_,h0,_⟩|⟨_,h1,_⟩
 ·exact absurd h0 d
 ·exact h1
theorem Lin.small{a b x y A B C D u v:Nat}{c:Bool}(h:Lin a b x y A B C D u v c)(e:a<18446744073709551616)(f:v<=y):v<4294967296:=by
 refine Classical.byContradiction fun d=>?_
 have h1:4294967296*4294967296<=v*x:=Nat.mul_le_mul ω (by have:=h.yx;omega);have:=h.za;omega
theorem Lin.big{a b x y A B C D u v:Nat}{c:Bool}(h:Lin a b x y A B C D u v c)(e:a<18446744073709551616)(d:0<x):v<18446744073709551616/\u<18446744073709551616:=by
 have h1:v<=v*x:=Nat.le_mul_of_pos_right _ d;have:=h.za;have:=h.uv;omega
end Go.Proofs.YtfefijlnbhbplaaGreatDoor.Limb

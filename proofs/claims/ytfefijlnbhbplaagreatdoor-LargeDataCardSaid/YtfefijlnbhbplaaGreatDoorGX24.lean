/- Walks and laws that LargeData asks for. -/
import Derived.Test.YtfefijlnbhbplaaGreatDoorGX21
set_option linter.unusedVariables false
set_option linter.unusedSimpArgs false
set_option maxRecDepth 1000000
set_option maxHeartbeats 6400000
namespace Go.Proofs.YtfefijlnbhbplaaGreatDoor
open Go Lib Go.RowKit Limb Tryz
set_option linter.unusedSectionVars false
variable [Old]
theorem gx{V:World}{g:Nat}{t:TypeId}{b c d e j c1:Value}(k:Row V g t [b,c])(l:Row V (g+1) t [d,e])(m:Row V (g+1+1) t [j,c1]):(∀X,Below V V X->X.cell? ⟨g,0,none⟩=some b/\X.cell? ⟨g,1,none⟩=some c/\X.cell? ⟨g+1,0,none⟩=some d/\X.cell? ⟨g+1,1,none⟩=some e)/\(∀X,Below (g+1+1) V X->X.cell? ⟨g,0,none⟩=some b/\X.cell? ⟨g,1,none⟩=some c/\X.cell? ⟨g+1,0,none⟩=some d/\X.cell? ⟨g+1,1,none⟩=some e):=by
 have a: ∀X,Below (g+1+1) V X->X.cell? ⟨g,0,none⟩=some b/\X.cell? ⟨g,1,none⟩=some c/\X.cell? ⟨g+1,0,none⟩=some d/\X.cell? ⟨g+1,1,none⟩=some e:=fun X h=>by
  have f:=k.below h ω;have i:=l.below h ω;exact⟨f.ae 0,f.ae 1,i.ae 0,i.ae 1⟩
 exact⟨fun X h=>a X (h.mono (by have:=m.lt;omega)),a⟩
theorem AK{x y:Int}{s:Bool}(c:s=decide (x<0))(d:s=decide (y<0)):x.natAbs+y.natAbs=(x+y).natAbs/\(s=true->x+y<=0)/\(s=false->0<=x+y):=by
 cases s<;>simp at c d<;>refine⟨ω,fun h=>by first |(cases h;done)|omega,fun h=>by first |(cases h;done)|omega⟩
theorem tz{x y:Int}{s:Bool}(c:s=decide (x<0))(d:(!s)=decide (y<0))(h:y.natAbs<=x.natAbs):x.natAbs-y.natAbs=(x+y).natAbs/\(s=true->x+y<=0)/\(s=false->0<=x+y):=by
 cases s<;>simp at c d<;>refine⟨ω,fun h=>by first |(cases h;done)|omega,fun h=>by first |(cases h;done)|omega⟩
def Raw(X:World)(a:Option Addr)(n c N:Nat):Prop:= ∃zs,n=zs.length/\CapB Old.top a n c/\n<=9223372036854775807/\Lim zs/\val zs=N/\Lay .u32 X a zs
def Fin(w w1:World)(g:Nat)(z:Int)(a:Option Addr)(c:Nat):Prop:=
 w1.cell? ⟨g,0,none⟩=some (.bool false)/\w1.cell? ⟨g,1,none⟩=some (.slice none 0 0)/\w1.frozen? ⟨g,0,none⟩=false/\w1.frozen? ⟨g,1,none⟩=false/\
   (w1.setCell ⟨g,0,none⟩ (.bool (decide (z<0)))).cell? ⟨g,0,none⟩=some (.bool (decide (z<0)))/\
   ((w1.setCell ⟨g,0,none⟩ (.bool (decide (z<0)))).setCell ⟨g,1,none⟩ (.slice a (rep z.natAbs).length c)).cell? ⟨g,1,none⟩=some (.slice a (rep z.natAbs).length c)/\
   Hid (ApiV ((w1.setCell ⟨g,0,none⟩ (.bool (decide (z<0)))).setCell ⟨g,1,none⟩ (.slice a (rep z.natAbs).length c)) (Ω (decide (z<0)) a (rep z.natAbs).length c) z/\Below w w ((w1.setCell ⟨g,0,none⟩ (.bool (decide (z<0)))).setCell ⟨g,1,none⟩ (.slice a (rep z.natAbs).length c)))
theorem iE{w W X:World}{g:Nat}{z:Int}{s:Bool}{a:Option Addr}{n c:Nat}(y:Row W g 24 [.bool false,.slice none 0 0])(A:Below w w W)(B:w.heap.size<=g)(hs:(s=true->z<=0)/\(s=false->0<=z))(C:Raw X a n c z.natAbs)(h:Below W W X):Calls prog 199 #[.bool s,.slice a n c] X fun e k=>(∃f j,e= .returned (Ω (decide (z<0)) f (rep z.natAbs).length j)/\Fin w k g z f j)/\Below W W k:=by
 obtain⟨zs,h1,p,q,r,v,x⟩:=C;refine(dQ X s a zs n c z x r h1 q p v hs).mono ?_;rintro e k ⟨u,rfl,hu,hb⟩;have d:=h.trans (hb.mono h.size);obtain⟨f,j,rfl,hf⟩:=fe y A B hu d;exact⟨⟨f,j,rfl,hf⟩,d⟩
theorem wQ{W X:World}{a b:Option Addr}{x y n m ca cb:Nat}(p:Lay .u32 W a (rep x))(q:Lay .u32 W b (rep y))(r:n=(rep x).length)(u:m=(rep y).length)(v:n<=1073741824)(z:m<=1073741824)(h:Below W W X)(A:Old.top<=W.heap.size):Calls prog 202 #[.slice a n ca,.slice b m cb] X fun e k=>(∃d f j,e= .returned (.slice d f j)/\Raw k d f j (x+y))/\Below W W k:=by
 refine(ol X a b (rep x) (rep y) n m ca cb 1073741824 (p.below h) (q.below h) (aB _) (aB _) r u v z δ).mono ?_;rw[aE,aE];rintro e k ⟨d,f,j,zs,rfl,h1,h2,h3,h4,h5,h6,h7,h8⟩;exact⟨⟨d,f,j,rfl,zs,h1,CapB.mono (B:=X.heap.size) ⟨h2,h8⟩ (Nat.le_trans A h.size),ω,h4,h5,h6⟩,h.trans (h7.mono h.size)⟩
theorem od{W X:World}{a b:Option Addr}{x y n m ca cb:Nat}(v:Lay .u32 W a (rep x))(z:Lay .u32 W b (rep y))(r:n=(rep x).length)(u:m=(rep y).length)(C:n<=1073741824)(d:y<=x)(h:Below W W X)(A:Old.top<=W.heap.size):Calls prog 203 #[.slice a n ca,.slice b m cb] X fun e p=>(∃f q j,e= .returned (.slice f q j)/\Raw p f q j (x-y))/\Below W W p:=by
 have k:m<=n:=by rw[r,u];exact aS d
 refine(oa X a b (rep x) (rep y) n m ca cb (v.below h) (z.below h) (aB _) (aB _) r u ω (by rw[aE,aE];exact d) k).mono ?_;rw[aE,aE];rintro e p ⟨f,j,rfl,h2,h6,h7,h8⟩;exact⟨⟨f,_,j,rfl,rep (x-y),rfl,CapB.mono (B:=X.heap.size) ⟨h2,h8⟩ (Nat.le_trans A h.size),by have:=aS (Nat.sub_le x y);omega,aB _,aE _,h6⟩,h.trans (h7.mono h.size)⟩
theorem sD(w:World)(v1 v2:Value)(x y:Int)(h1:ApiV w v1 x)(h2:ApiV w v2 y)(lx:(rep x.natAbs).length<=1073741824)(ly:(rep y.natAbs).length<=1073741824)(Y:Old.top<=w.heap.size):Calls prog 125 #[v1,v2] w fun e w'=> ∃u,e= .returned u/\ApiV w' u (x+y)/\Below w w w':=by
 obtain⟨N,c1,rfl,hc1,F⟩:=h1;obtain⟨O,B,rfl,hc2,G⟩:=h2;obtain⟨P,a0⟩: ∃n,n=(rep x.natAbs).length:=⟨_,rfl⟩;obtain⟨Q,a4⟩: ∃n,n=(rep y.natAbs).length:=⟨_,rfl⟩;rw[<-a0]at hc1 lx ⊢;rw[<-a4]at hc2 ly ⊢;clear hc1 hc2;obtain⟨k,a5⟩: ∃s,s=decide (x<0):=⟨_,rfl⟩;obtain⟨C,a6⟩: ∃s,s=decide (y<0):=⟨_,rfl⟩;rw[<-a5,<-a6];obtain⟨r0,r1,r2,H,hsz⟩:=fI w 24 (.bool k) (.slice N P c1) (.bool C) (.slice O Q B) (.bool false) (.slice none 0 0);obtain⟨W,hWe⟩:=ξ (((w.alloc (.cells #[.bool k,.slice N P c1] 24)).alloc (.cells #[.bool C,.slice O Q B] 24)).alloc (.cells #[.bool false,.slice none 0 0] 24));rw[<-hWe]at r0 r1 r2 H hsz;have S:=hid hWe;clear hWe;have D:=hid a0;clear a0;have E:=hid a4;clear a4;have T:=hid a5;clear a5;have U:=hid a6;clear a6;obtain⟨z,hz⟩:=ξ (x+y);rw[<-hz];have Hz:=hid hz;clear hz;obtain⟨c0,I⟩:=r0.two;obtain⟨L,M⟩:=r1.two;by_cases r:k=C
 ·subst r;obtain⟨f,p⟩:=AK T.out U.out;rw[<-Hz.out]at f p;obtain⟨R,hs⟩:=gx r0 r1 r2;have A:=fun X (h:Below W.heap.size W X)=>wQ (ca:=c1) (cb:=B) (F.below H) (G.below H) D.out E.out lx ly h (Nat.le_trans Y H.size)
  rw[f]at A;have HP:=hid A;clear A;have HM:=hid (fun X a n c (h1:Raw X a n c z.natAbs) (h:Below W.heap.size W X)=>iE r2 H ω p h1 h);have HK:=hid R;clear R;have HS:=hid hs;clear hs;clear f p;have h:=Below.refl W.heap.size W;go_enter func125,ntmps125;go_wp2_with fail;rw[<-S.out]
  go_region_held3 (fun X=>(X.cell? ⟨w,0,none⟩=some (.bool k)/\X.cell? ⟨w,1,none⟩=some (.slice N P c1)/\X.cell? ⟨N1 w,0,none⟩=some (.bool k)/\X.cell? ⟨N1 w,1,none⟩=some (.slice O Q B)))
   (first |(apply HK.out;(repeat(first |exact h|apply Below.drew));done)|(apply HS.out;apply aw;apply aw;apply Below.mono;(repeat(first |exact h|apply Below.drew));omega;exact Nat.le_refl _;exact Nat.le_refl _))
   (first
    |(go_at_call 202;apply Calls.mono;apply HP.out;(repeat(first |exact h|apply Below.drew));clear h;rintro e w' ⟨⟨a',n',c',rfl,hraw⟩,h⟩)
    |(go_at_call 199;apply Calls.mono;apply HM.out;exact hraw;(repeat(first |exact h|apply Below.drew));clear h hraw;rintro e w' ⟨⟨a3,c3,rfl,hfin⟩,h⟩;obtain⟨q0,q1,q2,q3,e0,f,hf⟩:=hfin))
  go_wp2;(try simp only[Exit.inBlock,Exit.then]);refine bodyPost_ret (v:=Ω (decide (z<0)) a3 (rep z.natAbs).length c3) (by simp[results,results125,go_sem,e0,f]) rfl ?_;exact⟨_,rfl,hf.out⟩
 ·have hsb:(k==C)=false:=(by rw[beq_eq_false_iff_ne];exact r);have j:(!k)=C:=by cases k<;>cases C<;>simp at r ⊢
  have Y:=fV W N O (rep x.natAbs) (rep y.natAbs) P Q c1 B (F.below H) (G.below H) (aB _) (aB _) (bh _) (bh _) D.out E.out ω ω;rw[aE,aE]at Y;have HO:=hid Y;clear Y;by_cases hge:y.natAbs<=x.natAbs
  ·have cv:=l5 hge;obtain⟨f,p⟩:=tz T.out (show(!k)=decide (y<0) by rw[j];exact U.out) hge;rw[<-Hz.out]at f p;obtain⟨v,hv⟩:=ξ (cX x.natAbs y.natAbs);rw[<-hv]at cv HO;clear hv;have Hns:=hid j;clear j r;go_enter func125,ntmps125;go_wp2_with fail;rw[<-S.out];refine HO.out.mono ?_;rintro e w5 ⟨rfl,q,rfl⟩;obtain⟨V,m⟩:=ξ (W.drewN q);have d:Below w w V:=by rw[m];exact below_drewN H q
   have p0:Row V w 24 [.bool k,.slice N P c1]:=(by rw[m];exact r0.drewN q);have p1:Row V (N1 w) 24 [.bool C,.slice O Q B]:=by rw[m];exact r1.drewN q
   have Z:Row V (N2 w) 24 [.bool false,.slice none 0 0]:=(by rw[m];exact r2.drewN q);rw[<-m];clear m r0 r1 r2 c0 I L M;obtain⟨c0,I⟩:=p0.two;obtain⟨L,M⟩:=p1.two;have hltV:=Z.lt;obtain⟨R,hs⟩:=gx p0 p1 Z;have A:=fun X (h:Below V.heap.size V X)=>od (ca:=c1) (cb:=B) (F.below d) (G.below d) D.out E.out lx (show y.natAbs<=x.natAbs by omega) h (Nat.le_trans Y d.size)
   rw[f]at A;have HP:=hid A;clear A;have HM:=hid (fun X a n c (h1:Raw X a n c z.natAbs) (h:Below V.heap.size V X)=>iE Z d ω p h1 h);have HK:=hid R;clear R;have HS:=hid hs;clear hs;clear f p;have h:=Below.refl V.heap.size V;go_wp2_with fail
   go_region_held3 (fun X=>(X.cell? ⟨w,0,none⟩=some (.bool k)/\X.cell? ⟨w,1,none⟩=some (.slice N P c1)/\X.cell? ⟨N1 w,0,none⟩=some (.bool C)/\X.cell? ⟨N1 w,1,none⟩=some (.slice O Q B)))
    (first |(apply HK.out;(repeat(first |exact h|apply Below.drew));done)|(apply HS.out;apply aw;apply aw;apply Below.mono;(repeat(first |exact h|apply Below.drew));omega;exact Nat.le_refl _;exact Nat.le_refl _))
    (first
     |(go_at_call 203;apply Calls.mono;apply HP.out;(repeat(first |exact h|apply Below.drew));clear h;rintro e w' ⟨⟨a',n',c',rfl,hraw⟩,h⟩)
     |(go_at_call 199;apply Calls.mono;apply HM.out;exact hraw;(repeat(first |exact h|apply Below.drew));clear h hraw;rintro e w' ⟨⟨a3,c3,rfl,hfin⟩,h⟩;obtain⟨q0,q1,q2,q3,e0,f,hf⟩:=hfin))
   go_wp2;(try simp only[Exit.inBlock,Exit.then]);refine bodyPost_ret (v:=Ω (decide (z<0)) a3 (rep z.natAbs).length c3) (by simp[results,results125,go_sem,e0,f]) rfl ?_;exact⟨_,rfl,hf.out⟩
  ·have cv:=kW (show x.natAbs<y.natAbs by omega);obtain⟨f,p⟩:=tz U.out (show(!C)=decide (x<0) by rw[<-j,Bool.not_not];exact T.out) (show x.natAbs<=y.natAbs by omega);rw[Int.add_comm y x]at f p;rw[<-Hz.out]at f p;obtain⟨v,hv⟩:=ξ (cX x.natAbs y.natAbs);rw[<-hv]at cv HO;clear hv;have Hns:=hid j;clear j r;go_enter func125,ntmps125;go_wp2_with fail;rw[<-S.out];refine HO.out.mono ?_;rintro e w5 ⟨rfl,q,rfl⟩;obtain⟨V,m⟩:=ξ (W.drewN q);have d:Below w w V:=by rw[m];exact below_drewN H q
   have p0:Row V w 24 [.bool k,.slice N P c1]:=(by rw[m];exact r0.drewN q);have p1:Row V (N1 w) 24 [.bool C,.slice O Q B]:=by rw[m];exact r1.drewN q
   have Z:Row V (N2 w) 24 [.bool false,.slice none 0 0]:=(by rw[m];exact r2.drewN q);rw[<-m];clear m r0 r1 r2 c0 I L M;obtain⟨c0,I⟩:=p0.two;obtain⟨L,M⟩:=p1.two;have hltV:=Z.lt;obtain⟨R,hs⟩:=gx p0 p1 Z;have A:=fun X (h:Below V.heap.size V X)=>od (ca:=B) (cb:=c1) (G.below d) (F.below d) E.out D.out ly (show x.natAbs<=y.natAbs by omega) h (Nat.le_trans Y d.size)
   rw[f]at A;have HP:=hid A;clear A;have HM:=hid (fun X a n c (h1:Raw X a n c z.natAbs) (h:Below V.heap.size V X)=>iE Z d ω p h1 h);have HK:=hid R;clear R;have HS:=hid hs;clear hs;clear f p;have h:=Below.refl V.heap.size V;go_wp2_with fail
   go_region_held3 (fun X=>(X.cell? ⟨w,0,none⟩=some (.bool k)/\X.cell? ⟨w,1,none⟩=some (.slice N P c1)/\X.cell? ⟨N1 w,0,none⟩=some (.bool C)/\X.cell? ⟨N1 w,1,none⟩=some (.slice O Q B)))
    (first |(apply HK.out;(repeat(first |exact h|apply Below.drew));done)|(apply HS.out;apply aw;apply aw;apply Below.mono;(repeat(first |exact h|apply Below.drew));omega;exact Nat.le_refl _;exact Nat.le_refl _))
    (first
     |(go_at_call 203;apply Calls.mono;apply HP.out;(repeat(first |exact h|apply Below.drew));clear h;rintro e w' ⟨⟨a',n',c',rfl,hraw⟩,h⟩)
     |(go_at_call 199;apply Calls.mono;apply HM.out;exact hraw;(repeat(first |exact h|apply Below.drew));clear h hraw;rintro e w' ⟨⟨a3,c3,rfl,hfin⟩,h⟩;obtain⟨q0,q1,q2,q3,e0,f,hf⟩:=hfin))
   go_wp2;(try simp only[Exit.inBlock,Exit.then]);refine bodyPost_ret (v:=Ω (decide (z<0)) a3 (rep z.natAbs).length c3) (by simp[results,results125,go_sem,e0,f]) rfl ?_;exact⟨_,rfl,hf.out⟩
end Go.Proofs.YtfefijlnbhbplaaGreatDoor
namespace Go.Proofs.YtfefijlnbhbplaaGreatDoor
open Go Lib Go.RowKit Limb Tryz
theorem yK{zs a xs ys:List Nat}{k b:Nat}(e:zs.length=a.length)(f:k+b<=zs.length)(g:ys.length<=b)(hs: ∀t,k+b<=t->wd zs t=wd a t)(h0:val a=val (xs.take k)*val ys)(h:val (zs.take (k+b))+0*W (k+b)=val (a.take (k+b))+wd xs k*val (ys.take b)*W k):val zs=val (xs.take (k+1))*val ys:=by
 have c:=bJ zs (k+b) f;have j:=bJ a (k+b) ω
 have d:zs.drop (k+b)=a.drop (k+b):=by
  apply dX (by simp[e]);intro i _;rw[wd_drop,wd_drop];exact hs _ ω
 rw[d]at c;rw[List.take_of_length_le g,Nat.zero_mul,Nat.add_zero]at h;rw[aN xs,Nat.add_mul,Nat.mul_comm (W k),Nat.mul_right_comm,<-h0];omega
theorem zG(w:World)(a b:Option Addr)(xs ys:List Nat)(n m ca cb:Nat)(ha:Lay .u32 w a xs)(hb:Lay .u32 w b ys)(hx:Lim xs)(hy:Lim ys)(hn:n=xs.length)(hm:m=ys.length)(ln:n<=1099511627776)(lm:m<=1099511627776):Calls prog 205 #[.slice a n ca,.slice b m cb] w fun e w'=> ∃a cap,e= .returned (.slice a (rep (val xs*val ys)).length cap)/\CapB w a (rep (val xs*val ys)).length cap/\cap<=4398046511104/\Lay .u32 w' a (rep (val xs*val ys))/\Below w w w':=by
 obtain⟨b1,off1,hix,hcx,_⟩:=ha.use 22 25 underlying22 aK ca;obtain⟨b2,off2,hiy,hcy,_⟩:=hb.use 22 25 underlying22 aK cb;rw[<-hn]at hix hcx;rw[<-hm]at hiy hcy;have Hn:=hid hn;clear hn;have Hm:=hid hm;clear hm;have HX:=hid hix;clear hix;have HCX:=hid hcx;clear hcx;have HY:=hid hiy;clear hiy;have HCY:=hid hcy;clear hcy;go_enter func205,ntmps205;go_wp2_with(at_make;refine aI rfl _ _ _ rfl 25 (Ψ 0) 4 underlying22 bz rfl _ _ _ _ (n+m) (n+m) rfl rfl (by simp) (by simp) ω ω ω ?_;intro w1 g hg1 hg2 hrow hbel);go_loopw[6] (fun i wr=> ∃(k:Nat) (zs:List Nat),k<=n/\i= .int .i64 k/\Hid (zs.length=n+m)/\Lim zs/\Row wr g 25 (aC .u32 zs)/\Hid (val zs=val (xs.take k)*val ys)/\Hid (∀t,k+m<=t->wd zs t=0)/\Below w w wr) (fun i _=>n-(intOf i).toNat);case atStart=>exact⟨0,List.replicate (n+m) 0,ω,rfl,hid (by simp),Lim.replicate _ δ,by rw[aG];exact hrow,hid (by simp[val,cH]),hid (fun t _=>cF _ _),hbel⟩
 case round=>
  obtain⟨k,zs0,hk,rfl,Hzl,hzlim,hr,Hv,H0,hbl⟩:=hrel;clear hrow hbel;have h1:=hx.wd k;by_cases hlt:k<n
  ·have ix:=fun(W:World)=>HX.out W .i64 k ω ω
   simp only[Int.toNat_natCast]at ix;obtain⟨wo,hwo⟩: ∃wo:World,wo=wr:=⟨_,rfl⟩;subst hwo;go_wp2;go_loopw[7,8] (fun c j wr=> ∃(jj cc:Nat) (zs:List Nat),jj<=m+1/\Hid (jj=m+1->cc=0)/\j= .int .i64 jj/\c= .int .u64 cc/\cc<4294967296/\Hid (zs.length=n+m)/\Lim zs/\Row wr g 25 (aC .u32 zs)/\Hid (∀t,k+jj<=t->wd zs t=wd zs0 t)/\Hid (val (zs.take (k+jj))+cc*W (k+jj)=val (zs0.take (k+jj))+wd xs k*val (ys.take jj)*W k)/\Below w w wr) (fun _ j _=>m+1-(intOf j).toNat);case atStart=>exact⟨0,0,zs0,ω,hid (fun _=>rfl),rfl,rfl,ω,hid Hzl.out,hzlim,hr,hid (fun _ _=>rfl),hid (by simp[val]),hbl⟩
   case round=>
    obtain⟨j,c,zs,hj,Hj,rfl,rfl,hc,Hzl2,hzlim2,hr2,Hs,Hv2,hbl2⟩:=hrel;clear hr hbl;have h2:=hy.wd j;have h3:=hzlim2.wd (k+j);by_cases hgo:j<m∨0<c
    ·have jm:j<=m:=(by have:=Hj.out;omega);have hcell:=hr2.cell (i:=k+j) (by rw[Hzl2.out];omega);have hfk:=hr2.free (k+j);have ig:=aX (P:=prog) underlying22 aK g (n+m) (n+m) .i64 ((k:Int)+(j:Int)) (k+j) ω ω;have hst:=hid (qQ (by rw[Hzl2.out];omega) (Hs.out _ ι) Hv2.out);obtain⟨t,ht⟩:=ξ (wd xs k*wd ys j+wd zs (k+j)+c)
     have tb:t<18446744073709551616:=by
      rw[ht];have:=Nat.mul_le_mul (show wd xs k<=4294967295 by omega) (show wd ys j<=4294967295 by omega);omega
     rw[<-ht]at hst;obtain⟨d,hd⟩:=ξ (t%4294967296);obtain⟨c2,hc2⟩:=ξ (t/4294967296);rw[<-hd,<-hc2]at hst;have ed:(t:Int)%4294967296=(d:Int):=ω
     have ec:(t:Int)/4294967296=(c2:Int):=ω;have dl:d<4294967296:=ω
     have cl:c2<4294967296:=ω;have hs2:Hid (∀t,k+(j+1)<=t->wd (zs.set (k+j) d) t=wd zs0 t):=hid (fun t h=>by rw[cm (by rw[Hzl2.out];omega),if_neg ω];exact Hs.out t ω);by_cases hjm:j<m
     ·have iy:=fun(W:World)=>HY.out W .i64 j ω ω
      simp only[Int.toNat_natCast]at iy;have cx:=HCX.out wr hbl2 k hlt;have cy:=HCY.out wr hbl2 j hjm;have d1:decide (j<m)=true:=by rw[decide_eq_true_eq];exact hjm
      obtain⟨p,hp⟩:=ξ (wd xs k*wd ys j);have ep:((wd xs k:Nat):Int)*((wd ys j:Nat):Int)=(p:Int):=by rw[hp,Int.natCast_mul]
      rw[<-hp]at ht;have pb:p<18446744073709551616:=ω
      have et:((wd zs (k+j):Nat):Int)+(c:Int)+(p:Int)=(t:Int):=ω;have hlast:Hid (j+1=m+1->c2=0):=hid (fun e=>ω);clear hd hc2 hp ht hgo;go_wp2;go_quiet (fail);go_wp2;go_roundw;case rel=>exact⟨j+1,c2,zs.set (k+j) d,ω,hlast,by go_num,rfl,cl,hid (by rw[List.length_set,Hzl2.out]),hzlim2.set dl,(hr2.drewN _).store _ _ _ rfl,hs2,hst,aw (below_drewN hbl2 _) hg1 _⟩
      case measure=>exact μ
     ·have ej:j=m:=ω;have z1:=eR (l:=ys) (i:=j) (by rw[<-Hm.out];omega);have z2:wd zs (k+j)=0:=by rw[Hs.out _ ι];exact H0.out _ ω
      rw[z1,z2,Nat.mul_zero]at ht;have d1:decide (j<m)=false:=by rw[decide_eq_false_iff_not];exact hjm
      have d2:decide (0<c)=true:=(by rw[decide_eq_true_eq];omega);have et:((wd zs (k+j):Nat):Int)+(c:Int)=(t:Int):=ω
      have hlast:Hid (j+1=m+1->c2=0):=hid (fun e=>ω);have jm1:j+1<=m+1:=ω
      clear hd hc2 ht hgo z1 z2 ej;go_wp2;go_roundw;case rel=>exact⟨j+1,c2,zs.set (k+j) d,jm1,hlast,by go_num,rfl,cl,hid (by rw[List.length_set,Hzl2.out]),hzlim2.set dl,hr2.store _ _ _ rfl,hs2,hst,aw hbl2 hg1 _⟩
      case measure=>exact μ
    ·have z:c=0:=ω;subst z;have d1:decide (j<m)=false:=by rw[decide_eq_false_iff_not];omega
     have hvn:=hid (yK (by rw[Hzl2.out,Hzl.out]) (by rw[Hzl2.out];omega) (by rw[<-Hm.out];omega) Hs.out Hv.out Hv2.out);have hz2:Hid (∀t,k+1+m<=t->wd zs t=0):=hid (fun t h=>by rw[Hs.out t ω];exact H0.out t ω);clear hgo;go_wp2;go_roundw;case rel=>exact⟨k+1,zs,ω,by go_num,hid Hzl2.out,hzlim2,hr2,hvn,hz2,hbl2⟩
     case measure=>exact μ
  ·obtain rfl:k=n:=ω
   have hl2:=hr.lay;have hle2:=aQ hzlim
   have hval:Hid (val zs0=val xs*val ys):=by
    have h:=Hv.out;rw[List.take_of_length_le (by rw[Hn.out];omega)]at h;exact h
   go_wp2_with(go_at_call 209;refine(ir _ _ zs0 _ _ (by assumption) (by assumption) (by rw[Hzl.out]) ω ω).mono ?_;rintro e w' ⟨rfl,rfl⟩);go_ret;rw[Hzl.out]at hle2;rw[<-hval.out];exact⟨_,_,rfl,CapB.new hle2 hg1,ω,hl2.norm hzlim,hbl⟩
theorem io{B:Nat}{w w':World}(h:Below B w w')(n:Nat):Below B w (w'.drewN n):=⟨h.os,h.tape,h.output,h.size,h.block⟩
theorem ub(w:World)(b:Bool)(y z:Option Addr)(l:List Nat)(n c1 A:Nat)(h1:Lay .u32 w y l)(F:Lay .u32 w z l)(G:n=l.length)(hm:n<=9223372036854775807):Calls prog 35 #[Ω b y n c1,Ω b z n A] w fun e w'=>e= .returned (.bool true)/\Below w w w':=by
 obtain⟨W,m,B,C,x,P⟩:=fG w 24 (.bool b) (.slice y n c1) (.bool b) (.slice z n A);have p:=hid m;clear m;obtain⟨T,D,d,f,_⟩:=(h1.below x).use 22 25 underlying22 aK c1;obtain⟨U,E,g,j,_⟩:=(F.below x).use 22 25 underlying22 aK A;rw[<-G]at d f g j;have H:=hid d;clear d;have r:=hid f;clear f;have I:=hid g;clear g;have v:=hid j;clear j;obtain⟨V,X⟩:=B.two;obtain⟨Y,Z⟩:=C.two;clear G h1 F B C;go_enter func35,ntmps35;go_wp2;rw[<-p.out];go_loopw[5] (fun i Q=> ∃(k:Nat),k<=n/\i= .int .i64 k/\∃q,Q=W.drewN q) (fun i _=>n-(intOf i).toNat);case atStart=>exact⟨0,Nat.zero_le _,rfl,0,rfl⟩
 case round=>
  obtain⟨k,hk,rfl,q,rfl⟩:=hrel;by_cases L:k<n
  ·have M:=fun q=>H.out (W.drewN q) .i64 k ω ω
   have O:=fun q=>I.out (W.drewN q) .i64 k ω ω
   simp only[Int.toNat_natCast]at M O;have R:=r.out W (Below.refl _ _) k ω;have S:=v.out W (Below.refl _ _) k ω;go_wp2;go_quiet (fail);go_wp2;go_roundw;case rel=>exact⟨k+1,ω,by go_num,by first |exact⟨_,rfl⟩|(simp only[World.drewN_drewN];exact⟨_,rfl⟩)⟩
   case measure=>exact μ
  ·obtain rfl:k=n:=ω
   go_wp2;go_ret;exact⟨rfl,io x _⟩
theorem D5:4294967296*(4294967296*4294967296)=(2:Nat)^96:=δ
theorem z9{V b c a r:Nat}(h0:b<4294967296)(h1:c<4294967296)(y:a<4294967296)(z:r<32)(k:V%2^96=b+c*4294967296+a*18446744073709551616):V/2^r%18446744073709551616=(b+c*4294967296)/2^r+a*2^(64-r)%18446744073709551616/\(b+c*4294967296)/2^r<2^(64-r):=by
 have d:(18446744073709551616:Nat)=2^r*2^(64-r):=by rw[<-Nat.pow_add,(ω:r+(64-r)=64)]
 have g:0<2^r:=Nat.pow_pos δ;have l:0<2^(64-r):=Nat.pow_pos δ
 have e:(b+c*4294967296)/2^r<2^(64-r):=by
  refine(Nat.div_lt_iff_lt_mul g).2 ?_;rw[Nat.mul_comm (2^(64-r)),<-d];omega
 refine⟨?_,e⟩;have i:=Nat.div_add_mod V (2^96)
 have f:(2:Nat)^96=2^r*(2^(32-r)*18446744073709551616):=by
  rw[<-Nat.mul_assoc,<-Nat.pow_add,(ω:r+(32-r)=32)]
 rw[k]at i;rw[f]at i;generalize V/(2^r*(2^(32-r)*18446744073709551616))=T at i
 have m:V=2^r*(2^(32-r)*18446744073709551616*T+2^(64-r)*a)+(b+c*4294967296):=by
  clear e l g k f;generalize 2^r=p at*
  generalize 2^(64-r)=q at*
  generalize 2^(32-r)=u at*
  grind
 rw[m,Nat.mul_add_div g]
 have n:2^(32-r)*18446744073709551616*T+2^(64-r)*a+(b+c*4294967296)/2^r=(b+c*4294967296)/2^r+a*2^(64-r)+18446744073709551616*(2^(32-r)*T):=by
  have o:2^(32-r)*18446744073709551616*T=18446744073709551616*(2^(32-r)*T):=(by rw[Nat.mul_comm (2^(32-r)),Nat.mul_assoc]);rw[o,Nat.mul_comm a];omega
 rw[n,Nat.add_mul_mod_self_left]
 -- the second part's lowest bits are 0
 generalize(b+c*4294967296)/2^r=j at e ⊢
 have s:a*2^(64-r)%18446744073709551616=2^(64-r)*(a%2^r):=by
  rw[d,Nat.mul_comm (2^r),Nat.mul_comm a,Nat.mul_mod_mul_left]
 have t:=Nat.mod_lt a g
 have x:2^(64-r)*(a%2^r)+2^(64-r)<=18446744073709551616:=by
  rw[d,<-Nat.mul_succ,Nat.mul_comm (2^r)];exact Nat.mul_le_mul_left _ t
 rw[Nat.add_mod,s];have v:j%18446744073709551616=j:=Nat.mod_eq_of_lt ω;rw[v];exact Nat.mod_eq_of_lt ω
theorem zY{xs:List Nat}(a:Lim xs)(i:Nat):val xs/Limb.W i%2^96=wd xs i+wd xs (i+1)*4294967296+wd xs (i+2)*18446744073709551616:=by
 have b: ∀j,val xs/Limb.W (j+1)=val xs/Limb.W j/4294967296:=fun j=>by rw[bP,Nat.mul_comm,<-Nat.div_div_eq_div_mul]
 rw[dP a,dP a,dP a,(ω:i+2=i+1+1),b (i+1),b i,<-D5];generalize val xs/Limb.W i=V;omega
theorem CL{a m s:Nat}(h1:a<2^s)(hs:s<=64)(c:m<18446744073709551616)(d:2^s∣m):bits .or .u64 (a:Int) (m:Int)=((a+m:Nat):Int):=by
 have b:a<18446744073709551616:=Nat.lt_of_lt_of_le h1 (show 2^s<=2^64 from Nat.pow_le_pow_right δ hs);rw[u64_or_nat _ _ b c];rw[Nat.or_comm,nat_join s m a (Nat.mod_eq_zero_of_dvd d) h1,Nat.add_comm]
theorem yc(w:World)(a:Option Addr)(xs:List Nat)(n ca f:Nat)(L:Lay .u32 w a xs)(k:Lim xs)(M:n=xs.length)(ln:n<=1099511627776)(lf:f<=1099511627776):Calls prog 272 #[.slice a n ca,I f] w fun e w'=>e= .returned (.int .u64 (val xs/2^f%18446744073709551616:Nat))/\w'=w:=by
 obtain⟨i,hi⟩:=ξ (f/32);obtain⟨r,hr⟩:=ξ (f%32);have e1:(f:Int)/32=i:=ω
 have e2:(f:Int)%32=r:=ω
 have O:r<32:=ω
 have X:i<=34359738368:=ω
 have S:val xs/2^f=val xs/Limb.W i/2^r:=by
  rw[dj,Nat.div_div_eq_div_mul,<-Nat.pow_add,(ω:32*i+r=f)]
 have h0:=k.wd i;have h1:=k.wd (i+1);have T:=k.wd (i+2);have u:=zY k i;have g:=hid (ee w a xs n ca (i:Int) L k M ω ω);have j:=hid (ee w a xs n ca ((i:Int)+1) L k M ω ω);have p:=hid (ee w a xs n ca ((i:Int)+2) L k M ω ω);rw[(ω:((i:Int)).toNat=i)]at g;rw[(ω:((i:Int)+1).toNat=i+1)]at j;rw[(ω:((i:Int)+2).toNat=i+2)]at p;obtain⟨F,A⟩: ∃d,d=wd xs i:=⟨_,rfl⟩;obtain⟨G,B⟩: ∃d,d=wd xs (i+1):=⟨_,rfl⟩;obtain⟨Q,C⟩: ∃d,d=wd xs (i+2):=⟨_,rfl⟩;rw[<-A]at g h0 u;rw[<-B]at j h1 u;rw[<-C]at p T u;obtain⟨D,b⟩:=z9 h0 h1 T O u;rw[S,D];have eo:=nW F G h0 h1;obtain⟨R,q⟩:=ξ ((F+G*4294967296)/2^r);rw[<-q]at b ⊢
 have v:((F:Int)+(G:Int)*4294967296)/2^r=(R:Int):=by
  rw[q,Int.natCast_ediv,Int.natCast_pow,Int.natCast_add,Int.natCast_mul];rfl
 have U:R<18446744073709551616:=by
  have:2^(64-r)<=2^64:=Nat.pow_le_pow_right δ ω;have e:(2:Nat)^64=18446744073709551616:=δ
  omega
 clear u D S A B C hi hr q L k M ln;by_cases P:r=0
 ·subst P
  have V:Q*2^(64-0)%18446744073709551616=0:=by
   rw[(δ:(2:Nat)^(64-0)=18446744073709551616),Nat.mul_mod_left]
  rw[V,Nat.add_zero];have Y:(F:Int)+(G:Int)*4294967296=(R:Int):=by have:=v;simpa using this
  clear b V v;go_enter func272,ntmps272;go_wp2_with fail;refine g.out.mono ?_;rintro e H ⟨rfl,rfl⟩;go_wp2_with fail;refine j.out.mono ?_;rintro e H ⟨rfl,rfl⟩;go_wp2;go_ret;exact⟨rfl,rfl⟩
 ·have d3:decide (0<r)=true:=(by rw[decide_eq_true_eq];omega);have Z:decide ((0:Int)<(r:Int))=true:=by rw[decide_eq_true_eq];omega
  obtain⟨s,hs⟩:=ξ (64-r);have es:(64:Int)-(r:Int)=(s:Int):=ω
  rw[<-hs]at b ⊢;have x:s<=64:=ω
  obtain⟨m,E⟩:=ξ (Q*2^s%18446744073709551616)
  have y:2^s∣m:=by
   rw[E];refine(Nat.dvd_mod_iff ?_).2 (Nat.dvd_mul_left _ _);exact⟨2^(64-s),by rw[<-Nat.pow_add,(ω:s+(64-s)=64)]⟩
  have em:IntKind.u64.wrap ((Q:Int)*2^s)=(m:Int):=by
   rw[IntKind.wrap_u64,E,Int.natCast_emod,Int.natCast_mul,Int.natCast_pow];rfl
  have z:m<18446744073709551616:=(by rw[E];exact Nat.mod_lt _ δ);have a0:=CL b x z y;rw[<-E];clear E hs y b z x;go_enter func272,ntmps272;go_wp2_with fail;refine g.out.mono ?_;rintro e H ⟨rfl,rfl⟩;go_wp2_with fail;refine j.out.mono ?_;rintro e H ⟨rfl,rfl⟩;go_wp2_with fail;refine p.out.mono ?_;rintro e H ⟨rfl,rfl⟩;go_wp2;go_ret;exact⟨rfl,rfl⟩
end Go.Proofs.YtfefijlnbhbplaaGreatDoor

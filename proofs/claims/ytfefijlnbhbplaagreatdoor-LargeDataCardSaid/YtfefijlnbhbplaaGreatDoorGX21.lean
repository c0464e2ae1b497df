/- Walks and laws that LargeData asks for. -/
import Derived.Test.YtfefijlnbhbplaaGreatDoorGX20
import Derived.Test.YtfefijlnbhbplaaGreatDoorGX08
import Derived.Test.YtfefijlnbhbplaaGreatDoorGX16
import Derived.Test.YtfefijlnbhbplaaGreatDoorGX18
set_option linter.unusedVariables false
set_option linter.unusedSimpArgs false
set_option maxRecDepth 1000000
set_option maxHeartbeats 6400000
namespace Go.Proofs.YtfefijlnbhbplaaGreatDoor
open Go Lib Go.RowKit Limb Tryz
theorem o5{a:Bool}{l:List Nat}(h:1024<l.length):bn a l=false:=by
 unfold bn;rw[if_neg ω,dF];rfl
theorem C5{a:Bool}{l:List Nat}{k:Nat}(h:l.length=k+1)(b:l.length<=1024):bn a l=decide (wd l k≠0):=by
 unfold bn;rw[if_neg ω,decide_eq_true b,h,Nat.add_sub_cancel];rfl
theorem sA(w:World)(d:Bool)(a:Option Addr)(l:List Nat)(n cap:Nat)(p:Lay .u32 w a l)(v:Lim l)(r:n=l.length)(H:n<=9223372036854775807):Calls prog 7 #[Ω d a n cap] w fun e w'=>e= .returned (.bool (bn d l))/\Below w w w':=by
 obtain⟨G,u,f,g,_⟩:=p.use 22 25 underlying22 aK cap;rw[<-r]at f g;have j:Below w w (w.alloc (.cells #[.bool d,.slice a n cap] 24)):=(Below.refl _ _).alloc ι _;by_cases h0:n=0
 ·have m:bn d l=!d:=(by unfold bn;rw[if_pos ω]);rw[m];clear f g r m;subst h0;cases d<;>
  ·go_enter func7,ntmps7;go_wp2;go_ret;exact⟨rfl,j⟩
 ·by_cases t:n<=1024
  ·obtain⟨k,A⟩: ∃k,n=k+1:=⟨n-1,ω⟩;rw[C5 (k:=k) ω ω];subst A;have x:=f (w.alloc (.cells #[.bool d,.slice a (k+1) cap] 24)) .i64 k ω ω;rw[Int.toNat_natCast]at x;have y:=g _ j k ω;have z:decide (k+1<=1024)=true:=by rw[decide_eq_true_eq];exact t
   have B:decide (0<k+1)=true:=(by rw[decide_eq_true_eq];omega);have C:(((k+1:Nat):Int)==0)=false:=nE
   have D:((k:Int)+1==0)=false:=nE;clear f g r h0;by_cases q:wd l k=0
   ·have e:decide (wd l k≠0)=false:=(by rw[decide_eq_false_iff_not];omega);rw[e];rw[q]at y;clear e q;go_enter func7,ntmps7;go_wp2;go_ret;exact⟨rfl,j⟩
   ·have e:decide (wd l k≠0)=true:=(by rw[decide_eq_true_eq];exact q);have E:(((wd l k:Nat):Int) != 0)=true:=by rw[bne_iff_ne];omega
    have F:(((wd l k:Nat):Int)==0)=false:=nE;rw[e];clear e q;go_enter func7,ntmps7;go_wp2;go_ret;exact⟨rfl,j⟩
  ·have m:bn d l=false:=o5 ω;rw[m];have z:decide (n<=1024)=false:=by rw[decide_eq_false_iff_not];exact t
   clear f g r m h0;go_enter func7,ntmps7;go_wp2;go_ret;exact⟨rfl,j⟩
theorem ir(w:World)(a:Option Addr)(l:List Nat)(n cap:Nat)(f:Lay .u32 w a l)(p:Lim l)(y:n=l.length)(Q:n<=9223372036854775807)(R:n<=cap):Calls prog 209 #[.slice a n cap] w fun e w'=>e= .returned (.slice a (rep (val l)).length cap)/\w=w':=by
 by_cases m:n=0
 ·have B:(rep (val l)).length=0:=(by rw[List.eq_nil_of_length_eq_zero (y.symm.trans m)];rfl);rw[B];clear B y;subst m;go_enter func209,ntmps209;go_wp2;refine wp_loop_rounds 1 ?_;rw[rounds_succ];go_wp2;go_ret;exact⟨rfl,rfl⟩
 ·obtain⟨C,o,h1,D⟩:=f;have F:=(h1 ω).1;have f:Lay .u32 w a l:=⟨C,o,h1,D⟩;subst F;clear h1 D m;have v:=hid y;clear y;go_enter func209,ntmps209;go_wp2;go_loop[0] (fun s=> ∃k:Nat,k<=n/\s= .slice (some ⟨C,o,none⟩) k cap/\Hid (val (l.take k)=val l)) (fun s=>match s with | .slice _ k _=>k|_=>0);case atStart=>exact⟨n,Nat.le_refl _,rfl,hid (by rw[v.out,List.take_length])⟩
  case round=>
   obtain⟨k,E,rfl,A⟩:=hrel;by_cases h0:k=0
   ·have G:decide (0<k)=false:=(by simp[h0]);have z:Hid ((rep (val l)).length=k):=li p k (by rw[<-v.out];exact E) A.out (.inl h0);clear h0;go_wp2;go_ret;exact⟨by rw[z.out];rfl,rfl⟩
   ·obtain⟨j,rfl⟩: ∃j,k=j+1:=⟨k-1,ω⟩;obtain⟨b,N,q,d,O⟩:=(f.take (j+1)).use 22 25 underlying22 aK cap;have x:(l.take (j+1)).length=j+1:=by rw[List.length_take,<-v.out];omega
    rw[x]at q d;have H:=q w .i64 j ω ω;have I:=d w (Below.refl _ _) j ω;rw[Int.toNat_natCast]at H;rw[wd_take ω]at I;clear q d x O;have G:decide (0<j+1)=true:=by rw[decide_eq_true_eq];omega
    have P:((j+1:Nat):Int)-1=(j:Int):=ω;have L:(j:Int)+1-1=(j:Int):=ω
    by_cases m:wd l j=0
    ·have M:(((wd l j:Nat):Int)==0)=true:=(by simp[m]);go_wp2;go_round;case rel=>exact⟨j,ω,rfl,hid (by rw[<-qA j (by rw[<-v.out];omega) A.out m])⟩
     case measure=>first |(simp;done)|(simp;omega)|omega
    ·have M:(((wd l j:Nat):Int)==0)=false:=(by simp;omega);have z:Hid ((rep (val l)).length=j+1):=li p (j+1) (by rw[<-v.out];exact E) A.out (.inr m);clear h0 m;go_wp2;go_ret;exact⟨by rw[z.out];rfl,rfl⟩
def E0(w w':World)(e:Ending)(N:Nat):Prop:=
 ∃a cap,e= .returned (.slice a (rep N).length cap)/\(rep N).length<=cap/\Lay .u32 w' a (rep N)/\Below w w w'/\Fresh w a
theorem oa(w:World)(a b:Option Addr)(xs ys:List Nat)(n m ca cb:Nat)(ha:Lay .u32 w a xs)(hb:Lay .u32 w b ys)(hx:Lim xs)(hy:Lim ys)(hn:n=xs.length)(hm:m=ys.length)(ln:n<=1099511627776)(hle:val ys<=val xs)(hmn:m<=n):Calls prog 203 #[.slice a n ca,.slice b m cb] w fun e w'=>E0 w w' e (val xs-val ys):=by
 obtain⟨b1,off1,hix,hcx,_⟩:=ha.use 22 25 underlying22 aK ca;obtain⟨b2,off2,hiy,hcy,_⟩:=hb.use 22 25 underlying22 aK cb;rw[<-hn]at hix hcx;rw[<-hm]at hiy hcy;have Hn:=hid hn;clear hn;have Hm:=hid hm;clear hm;have HX:=hid hix;clear hix;have HCX:=hid hcx;clear hcx;have HY:=hid hiy;clear hiy;have HCY:=hid hcy;clear hcy;go_enter func203,ntmps203;go_wp2_with(at_make;refine aI rfl _ _ _ rfl 25 (Ψ 0) 4 underlying22 bz rfl _ _ _ _ n n rfl rfl rfl rfl ω ω ω ?_;intro w1 g hg1 hg2 hrow hbel);go_loopw[6,7] (fun c i wr=> ∃(k cc:Nat) (zs:List Nat),k<=n/\i= .int .i64 k/\c= .int .i64 cc/\cc<=1/\Hid (zs.length=n)/\Lim zs/\Row wr g 25 (aC .u32 zs)/\Hid (val (zs.take k)+val (ys.take k)=val (xs.take k)+cc*W k)/\Below w w wr) (fun _ i _=>n-(intOf i).toNat);case atStart=>exact⟨0,0,List.replicate n 0,ω,rfl,rfl,ω,hid (by simp),Lim.replicate _ δ,by rw[aG];exact hrow,hid (by simp[val]),hbel⟩
 case round=>
  obtain⟨k,c,zs,hk,rfl,rfl,hc1,Hzl,hzlim,hr,Hv,hbl⟩:=hrel;clear hrow hbel;have h1:=hx.wd k;have h2:=hy.wd k;by_cases hlt:k<n
  ·have hcell:=hr.cell (i:=k) (by rw[Hzl.out];omega);have hfk:=hr.free k;have ix:=HX.out wr .i64 k ω ω;rw[Int.toNat_natCast]at ix;have cx:wr.cell? ⟨b1,off1+k,none⟩=O (Ψ (wd xs k:Nat)):=HCX.out wr hbl k hlt;have ig:=aX (P:=prog) underlying22 aK g n n .i64 (k:Int) k rfl hlt;have hst:=hid (pS (by rw[Hzl.out];exact hlt) hc1 h1 h2 Hv.out);obtain⟨d,hd⟩:=ξ ((wd xs k+4294967296-wd ys k-c)%4294967296);rw[<-hd]at hst;have dl:d<4294967296:=ω
   by_cases hkm:k<m
   ·have iy:=HY.out wr .i64 k ω ω;rw[Int.toNat_natCast]at iy;have cy:=HCY.out wr hbl k hkm;have d1:decide (k<m)=true:=by rw[decide_eq_true_eq];exact hkm
    by_cases hbw:wd xs k<wd ys k+c
    ·have eb:(if wd xs k<wd ys k+c then 1 else 0)=1:=if_pos hbw;have ev:(wd xs k:Int)-(c:Int)-(wd ys k:Nat)+4294967296=(d:Int):=ω
     have et:decide ((wd xs k:Int)-(c:Int)-(wd ys k:Nat)<0)=true:=(by rw[decide_eq_true_eq];omega);rw[eb]at hst;clear hd eb hbw;go_wp2;go_roundw;case rel=>exact⟨k+1,1,zs.set k d,ω,by go_num,rfl,ω,hid (by rw[List.length_set,Hzl.out]),hzlim.set dl,hr.store _ _ _ rfl,hst,aw hbl hg1 _⟩
     case measure=>exact μ
    ·have eb:(if wd xs k<wd ys k+c then 1 else 0)=0:=if_neg hbw;have ev:(wd xs k:Int)-(c:Int)-(wd ys k:Nat)=(d:Int):=ω
     have et:decide ((wd xs k:Int)-(c:Int)-(wd ys k:Nat)<0)=false:=(by rw[decide_eq_false_iff_not];omega);have et2: ¬(d:Int)<0:=ω
     rw[eb]at hst;clear hd eb hbw;go_wp2;go_roundw;case rel=>exact⟨k+1,0,zs.set k d,ω,by go_num,rfl,ω,hid (by rw[List.length_set,Hzl.out]),hzlim.set dl,hr.store _ _ _ rfl,hst,aw hbl hg1 _⟩
     case measure=>exact μ
   ·have z2:=eR (l:=ys) (i:=k) (by rw[<-Hm.out];omega);have d1:decide (k<m)=false:=by rw[decide_eq_false_iff_not];exact hkm
    by_cases hbw:wd xs k<wd ys k+c
    ·have eb:(if wd xs k<wd ys k+c then 1 else 0)=1:=if_pos hbw;have ev:(wd xs k:Int)-(c:Int)+4294967296=(d:Int):=ω
     have et:decide ((wd xs k:Int)-(c:Int)<0)=true:=(by rw[decide_eq_true_eq];omega);rw[eb]at hst;clear hd eb hbw z2;go_wp2;go_roundw;case rel=>exact⟨k+1,1,zs.set k d,ω,by go_num,rfl,ω,hid (by rw[List.length_set,Hzl.out]),hzlim.set dl,hr.store _ _ _ rfl,hst,aw hbl hg1 _⟩
     case measure=>exact μ
    ·have eb:(if wd xs k<wd ys k+c then 1 else 0)=0:=if_neg hbw;have ev:(wd xs k:Int)-(c:Int)=(d:Int):=ω
     have et:decide ((wd xs k:Int)-(c:Int)<0)=false:=(by rw[decide_eq_false_iff_not];omega);have et2: ¬(d:Int)<0:=ω
     rw[eb]at hst;clear hd eb hbw z2;go_wp2;go_roundw;case rel=>exact⟨k+1,0,zs.set k d,ω,by go_num,rfl,ω,hid (by rw[List.length_set,Hzl.out]),hzlim.set dl,hr.store _ _ _ rfl,hst,aw hbl hg1 _⟩
     case measure=>exact μ
  ·obtain rfl:k=n:=ω
   have hl2:=hr.lay;have hle2:=aQ hzlim;have hval:=hid (ur hzlim Hzl.out (by rw[Hn.out]) (by rw[<-Hm.out];exact hmn) hle Hv.out);clear h1 h2;go_wp2_with(go_at_call 209;refine(ir _ _ zs _ _ (by assumption) (by assumption) (by rw[Hzl.out]) ω ω).mono ?_;rintro e w' ⟨rfl,rfl⟩);go_ret;rw[Hzl.out]at hle2;rw[<-hval.out];exact⟨_,_,rfl,hle2,hl2.norm hzlim,hbl,fun b off e=>by simp only[Option.some.injEq,Addr.mk.injEq]at e;omega⟩
set_option linter.unusedSectionVars false
variable [Old]
theorem dQ(w:World)(neg:Bool)(a:Option Addr)(l:List Nat)(n cap:Nat)(z:Int)(hlay:Lay .u32 w a l)(hlim:Lim l)(hn:n=l.length)(hm:n<=9223372036854775807)(hc:CapB Old.top a n cap)(hz:val l=z.natAbs)(hs:(neg=true->z<=0)/\(neg=false->0<=z)):Calls prog 199 #[.bool neg,.slice a n cap] w fun e w'=> ∃u,e= .returned u/\ApiV w' u z/\Below w w w':=by
 obtain⟨W,hWe⟩:=ξ (w.alloc (.cells #[.bool false,.slice none 0 0] 24));have r0:Row W w 24 [.bool false,.slice none 0 0]:=by rw[hWe];unfold Row;exact heap_alloc_new _ _
 have hW:Below w w W:=by rw[hWe];exact(Below.refl _ _).alloc ι _
 have HWe:=hid hWe;clear hWe;have hlW:=hlay.below hW;have hcut:=ir W a l n cap hlW hlim hn hm hc.1;have hle:=aQ hlim;rw[<-hn]at hle;have hln:=hlW.norm hlim;rw[hz]at hcut hle hln;obtain⟨k0,k1,k2,k3⟩:=r0.four;obtain⟨m,hm'⟩:=ξ ((rep z.natAbs).length);rw[<-hm']at hcut hle;have hm0:m=0↔z=0:=by rw[hm',rep_length_zero];omega
 have HM0:=hid hm0;clear hm0;have HM:=hid hm';clear hm';have HC:=hid hcut;clear hcut
 have hfin: ∀b:Bool,b=decide (z<0)->ApiV ((W.setCell ⟨w,0,none⟩ (.bool b)).setCell ⟨w,1,none⟩ (.slice a m cap)) (Ω b a m cap) z/\Below w w ((W.setCell ⟨w,0,none⟩ (.bool b)).setCell ⟨w,1,none⟩ (.slice a m cap)):=by
  intro b hb;refine⟨⟨a,cap,by rw[hb,HM.out],⟨by rw[<-HM.out];have:=hc.1;omega,hc.2⟩,hln.pair r0 _ _⟩,aw (aw hW ι _) ι _⟩
 have HF:=hid hfin;clear hfin;have he: ∀b:Bool,(W.setCell ⟨w,0,none⟩ (.bool b)).cell? ⟨w,0,none⟩=some (.bool b)/\((W.setCell ⟨w,0,none⟩ (.bool b)).setCell ⟨w,1,none⟩ (.slice a m cap)).cell? ⟨w,1,none⟩=some (.slice a m cap):=fun b=>⟨(r0.af 0 _).ae 0,((r0.af 0 _).af 1 _).ae 1⟩
 have HE:=hid he;clear he;have hs1:=hs.1;have hs2:=hs.2;clear hz hn hs hlay hlW hln r0 hc;cases neg with
 |false=>
  have h0:=hs2 rfl;obtain⟨e0,e1⟩:=HE.out false;clear hs1 hs2;go_enter func199,ntmps199;go_wp2_with fail;rw[<-HWe.out];refine HC.out.mono ?_;rintro e w' ⟨rfl,rfl⟩;go_wp2_with fail;(try simp only[Exit.inBlock,Exit.then]);refine bodyPost_ret (v:=Ω false a m cap) (by simp[results,results199,go_sem,e0,e1]) rfl ?_;exact⟨_,rfl,HF.out false (by simp;omega)⟩
 |true=>
  have h0:=hs1 rfl;clear hs1 hs2;by_cases hz:m=0
  ·have hzz:=hid (HM0.out.1 hz);obtain⟨e0,e1⟩:=HE.out false;have d1:decide (0<m)=false:=by rw[decide_eq_false_iff_not];omega
   have HF1:=hid (HF.out false (by rw[hzz.out];rfl));clear hz;go_enter func199,ntmps199;go_wp2_with fail;rw[<-HWe.out];refine HC.out.mono ?_;rintro e w' ⟨rfl,rfl⟩;go_wp2_with fail;(try simp only[Exit.inBlock,Exit.then]);refine bodyPost_ret (v:=Ω false a m cap) (by simp[results,results199,go_sem,e0,e1]) rfl ?_;exact⟨_,rfl,HF1.out⟩
  ·obtain⟨e0,e1⟩:=HE.out true;have d1:decide (0<m)=true:=by rw[decide_eq_true_eq];omega
   have HF1:=hid (HF.out true (by have:=HM0.out;simp;omega));clear hz;go_enter func199,ntmps199;go_wp2_with fail;rw[<-HWe.out];refine HC.out.mono ?_;rintro e w' ⟨rfl,rfl⟩;go_wp2_with fail;(try simp only[Exit.inBlock,Exit.then]);refine bodyPost_ret (v:=Ω true a m cap) (by simp[results,results199,go_sem,e0,e1]) rfl ?_;exact⟨_,rfl,HF1.out⟩
end Go.Proofs.YtfefijlnbhbplaaGreatDoor
namespace Go.Proofs.YtfefijlnbhbplaaGreatDoor
open Go Lib Go.RowKit Limb Tryz
set_option linter.unusedSectionVars false
variable [Old]
theorem Dd(w:World)(t:TypeId)(K:IntKind)(a b:Nat):Lay K (w.alloc (.cells #[.int K (a:Int),.int K (b:Int)] t)) (some ⟨w,0,none⟩) [a,b]:=by
 have h:Row (w.alloc (.cells #[.int K (a:Int),.int K (b:Int)] t)) w t (aC K [a,b]):=by unfold Row;exact heap_alloc_new _ _
 exact h.lay
theorem Ec(a b:Nat):val [a,b]=a+4294967296*b:=by simp[val]
theorem sa(w:World)(v:Int)(h1: -9223372036854775808<=v)(h2:v<=9223372036854775807)(ho:Old.top<=w.heap.size):Calls prog 120 #[I v] w fun e w'=> ∃u,e= .returned u/\ApiV w' u v/\Below w w w':=by
 obtain⟨n,S⟩: ∃n:Nat,n=v.natAbs:=⟨_,rfl⟩;obtain⟨f,H⟩: ∃f:Nat,f=n%4294967296:=⟨_,rfl⟩;obtain⟨j,L⟩: ∃j:Nat,j=n/4294967296:=⟨_,rfl⟩;have T:(n:Int)%4294967296=(f:Int):=ω
 have U:(n:Int)/4294967296=(j:Int):=ω
 have E:f<4294967296:=ω
 have F:j<4294967296:=ω
 have N:val [f,j]=v.natAbs:=by rw[Ec];omega
 have k:Lim [f,j]:=Lim.cons E (Lim.cons F Lim.nil);obtain⟨W,d⟩:=ξ ((w.alloc (.cells #[.bool false,.slice none 0 0] 24)).alloc (.cells #[Ψ (f:Int),Ψ (j:Int)] 25));have V:Below w w W:=by rw[d];exact((Below.refl _ _).alloc ι _).alloc (by rw[World.size_alloc];omega) _
 have O:Row W w 24 [.bool false,.slice none 0 0]:=by rw[d];apply Row.alloc;unfold Row;exact heap_alloc_new _ _
 have D:Lay .u32 W (some ⟨N1 w,0,none⟩) [f,j]:=by
  have:=Dd (w.alloc (.cells #[.bool false,.slice none 0 0] 24)) 25 .u32 f j;rw[World.size_alloc]at this;rw[d];exact this
 have q:=hid d;clear d;have P:=fun(M:Bool) hs=>dQ W M (some ⟨N1 w,0,none⟩) [f,j] 2 2 v D k rfl δ (CapB.new δ ω) N hs
 have Q:=hid P;clear P;clear H L N k D ho
 have x: ∀w1 u,ApiV w1 u v->Below W.heap.size W w1->∃a c,u= .agg #[.bool (decide (v<0)),.slice a (rep v.natAbs).length c]/\
   w1.cell? ⟨w,0,none⟩=some (.bool false)/\w1.cell? ⟨w,1,none⟩=some (.slice none 0 0)/\w1.frozen? ⟨w,0,none⟩=false/\w1.frozen? ⟨w,1,none⟩=false/\
   (w1.setCell ⟨w,0,none⟩ (.bool (decide (v<0)))).cell? ⟨w,0,none⟩=some (.bool (decide (v<0)))/\
   ((w1.setCell ⟨w,0,none⟩ (.bool (decide (v<0)))).setCell ⟨w,1,none⟩ (.slice a (rep v.natAbs).length c)).cell? ⟨w,1,none⟩=some (.slice a (rep v.natAbs).length c)/\
   Hid (ApiV ((w1.setCell ⟨w,0,none⟩ (.bool (decide (v<0)))).setCell ⟨w,1,none⟩ (.slice a (rep v.natAbs).length c)) (Ω (decide (v<0)) a (rep v.natAbs).length c) v/\Below w w ((w1.setCell ⟨w,0,none⟩ (.bool (decide (v<0)))).setCell ⟨w,1,none⟩ (.slice a (rep v.natAbs).length c))):=by
  rintro w1 u ⟨a,c,rfl,hc,D⟩ hb;have m:=O.below hb O.lt;refine⟨a,c,rfl,m.ae 0,m.ae 1,m.free 0,m.free 1,(m.af 0 _).ae 0,((m.af 0 _).af 1 _).ae 1,hid ⟨⟨a,c,rfl,hc,D.pair m _ _⟩,?_⟩⟩;exact aw (aw (τ V hb) ι _) ι _
 have z:=hid x;clear x;by_cases R:v<0
 ·have G:decide (v<0)=true:=(by simpa using R);have X:IntKind.u64.wrap (-(IntKind.u64.wrap v))=n:=by rw[show v= -(n:Int)from by omega];exact xh ω
  have p:=hid (Q.out true ⟨fun _=>ω,fun h=>by cases h⟩);clear S;go_enter func120,ntmps120;go_wp2_with fail;rw[<-q.out];refine p.out.mono ?_;rintro e w1 ⟨u,rfl,hu,hb⟩;obtain⟨a,c,rfl,Y,Z,k2,k3,A,B,hf⟩:=z.out w1 u hu hb;rw[G]at A B hf ⊢;go_wp2_with fail;(try simp only[Exit.inBlock,Exit.then]);refine bodyPost_ret (v:=Ω true a (rep v.natAbs).length c) (by simp[results,results120,go_sem,A,B]) rfl ?_;exact⟨_,rfl,hf.out⟩
 ·have G:decide (v<0)=false:=(by simpa using R);have X:IntKind.u64.wrap v=n:=by rw[show v=(n:Int)from by omega];exact ya ω
  have p:=hid (Q.out false ⟨fun h=>(by cases h),fun _=>ω⟩);clear S;go_enter func120,ntmps120;go_wp2_with fail;rw[<-q.out];refine p.out.mono ?_;rintro e w1 ⟨u,rfl,hu,hb⟩;obtain⟨a,c,rfl,Y,Z,k2,k3,A,B,hf⟩:=z.out w1 u hu hb;rw[G]at A B hf ⊢;go_wp2_with fail;(try simp only[Exit.inBlock,Exit.then]);refine bodyPost_ret (v:=Ω false a (rep v.natAbs).length c) (by simp[results,results120,go_sem,A,B]) rfl ?_;exact⟨_,rfl,hf.out⟩
theorem fe{w W w1:World}{g:Nat}{u:Value}{z:Int}(f:Row W g 24 [.bool false,.slice none 0 0])(q:Below w w W)(j:w.heap.size<=g)(v:ApiV w1 u z)(k:Below W W w1): ∃a c,u= .agg #[.bool (decide (z<0)),.slice a (rep z.natAbs).length c]/\w1.cell? ⟨g,0,none⟩=some (.bool false)/\w1.cell? ⟨g,1,none⟩=some (.slice none 0 0)/\w1.frozen? ⟨g,0,none⟩=false/\w1.frozen? ⟨g,1,none⟩=false/\(w1.setCell ⟨g,0,none⟩ (.bool (decide (z<0)))).cell? ⟨g,0,none⟩=some (.bool (decide (z<0)))/\((w1.setCell ⟨g,0,none⟩ (.bool (decide (z<0)))).setCell ⟨g,1,none⟩ (.slice a (rep z.natAbs).length c)).cell? ⟨g,1,none⟩=some (.slice a (rep z.natAbs).length c)/\Hid (ApiV ((w1.setCell ⟨g,0,none⟩ (.bool (decide (z<0)))).setCell ⟨g,1,none⟩ (.slice a (rep z.natAbs).length c)) (Ω (decide (z<0)) a (rep z.natAbs).length c) z/\Below w w ((w1.setCell ⟨g,0,none⟩ (.bool (decide (z<0)))).setCell ⟨g,1,none⟩ (.slice a (rep z.natAbs).length c))):=by
 obtain⟨a,c,rfl,m,p⟩:=v;have d:=f.below k f.lt;refine⟨a,c,rfl,d.ae 0,d.ae 1,d.free 0,d.free 1,(d.af 0 _).ae 0,((d.af 0 _).af 1 _).ae 1,hid ⟨⟨a,c,rfl,m,p.pair d _ _⟩,?_⟩⟩;exact aw (aw (τ q k) j _) j _
theorem ApiV.below{w w':World}{u:Value}{z:Int}(h:ApiV w u z)(e:Below w w w'):ApiV w' u z:=by
 obtain⟨a,c,h1,b,d⟩:=h;exact⟨a,c,h1,b,d.below e⟩
theorem DL(w:World)(v:Value)(z:Int)(H:ApiV w v z)(I:(rep z.natAbs).length<=9223372036854775807):Calls prog 204 #[v] w fun e w'=> ∃u,e= .returned u/\ApiV w' u (-z)/\Below w w w':=by
 obtain⟨a,c,rfl,m,p⟩:=H;obtain⟨W,f,x,A,q,B⟩:=fG w 24 (.bool (decide (z<0))) (.slice a (rep z.natAbs).length c) (.bool false) (.slice none 0 0);have d:=hid f;clear f;have j:=dQ W (!decide (z<0)) a (rep z.natAbs) (rep z.natAbs).length c (-z) (p.below q) (aB _) rfl I m (by rw[aE];omega) ⟨fun h=>(by simp at h;omega),fun h=>(by simp at h;omega)⟩;obtain⟨y,r⟩:=ξ (-z);rw[<-r]at j ⊢;have k:=hid j;clear j;obtain⟨C,L⟩:=x.two;obtain⟨s,hs⟩:=ξ (decide (z<0));rw[<-hs]at k d C ⊢;clear hs p r m;go_enter func204,ntmps204;go_wp2_with fail;rw[<-d.out];refine k.out.mono ?_;rintro e w1 ⟨u,rfl,hu,hb⟩;obtain⟨D,E,rfl,M,N,O,P,F,G,hf⟩:=fe A q ω hu hb;go_wp2_with fail;(try simp only[Exit.inBlock,Exit.then]);refine bodyPost_ret (v:=Ω (decide (y<0)) D (rep y.natAbs).length E) (by simp[results,results204,go_sem,F,G]) rfl ?_;exact⟨_,rfl,hf.out⟩
end Go.Proofs.YtfefijlnbhbplaaGreatDoor
namespace Go.Proofs.YtfefijlnbhbplaaGreatDoor
open Go Lib Go.RowKit Limb Tryz
def Ay(w w':World)(e:Ending)(q r:Int):Prop:=Below w w w'/\∃a c b d,
 e=Rt #[Ω (decide (q<0)) a (rep q.natAbs).length c,Ω (decide (r<0)) b (rep r.natAbs).length d,I 0]/\
 CapB w a (rep q.natAbs).length c/\CapB w b (rep r.natAbs).length d/\Lay .u32 w' a (rep q.natAbs)/\Lay .u32 w' b (rep r.natAbs)
def nk(w w':World)(e:Ending)(k:Int):Prop:=Below w w w'/\
 e=Rt #[Ω false none 0 0,Ω false none 0 0,I k]
theorem qG(w:World)(t:TypeId)(b d f g i c1 j k:Value): ∃W,W=(((w.alloc (.cells #[b,d] t)).alloc (.cells #[f,g] t)).alloc (.cells #[i,c1] t)).alloc (.cells #[j,k] t)/\Row W w t [b,d]/\Row W (N1 w) t [f,g]/\Row W (N2 w) t [i,c1]/\Row W (w.heap.size+1+1+1) t [j,k]/\Below w w W/\W.heap.size=w.heap.size+1+1+1+1:=by
 obtain⟨n,p,q,m,hs⟩:=fI w t b d f g i c1;refine⟨_,rfl,n.alloc _,p.alloc _,q.alloc _,?_,m.alloc m.size _,by rw[World.size_alloc,hs]⟩;unfold Row;have:=heap_alloc_new (((w.alloc (.cells #[b,d] t)).alloc (.cells #[f,g] t)).alloc (.cells #[i,c1] t)) (.cells #[j,k] t);rw[hs]at this;exact this
theorem zU(w:World)(A B fl:Bool)(D E:Option Addr)(F G:List Nat)(p q c1 M:Nat)(R:Lay .u32 w D F)(S:Lay .u32 w E G)(T:Lim F)(U:Lim G)(k:p=F.length)(m:q=G.length)(X:p<=9223372036854775807)(Y:q<=9223372036854775807)(Z:(bn A F&&bn B G)=false):Calls prog 86 #[Ω A D p c1,Ω B E q M,.bool fl] w fun e w'=>nk w w' e 1:=by
 obtain⟨W,x,r0,r1,r2,r3,P,Q⟩:=qG w 24 (.bool A) (.slice D p c1) (.bool B) (.slice E q M) (.bool false) (.slice none 0 0) (.bool false) (.slice none 0 0);have N:=hid x;clear x;have j:=fun g h1 h2 h3=>dY (W.alloc (.cells #[.bool A,.slice D p c1,.bool B,.slice E q M] 24)) g A B D E F G p q c1 M h1 h2 h3 T U k m X Y
 have Hm1:=hid k;clear k;have Hm2:=hid m;clear m;have f:=j (w.heap.size+1+1+1+1) (by rw[<-Q];exact cQ _ _ _) ((R.below P).below ((Below.refl _ _).alloc ι _)) ((S.below P).below ((Below.refl _ _).alloc ι _));rw[Z]at f;have HM:=hid f;clear j f;go_enter func86,ntmps86;go_wp2_with fail;rw[<-N.out];refine HM.out.mono ?_;rintro e w1 ⟨rfl,hbw⟩;have d:=bE hbw;have O:Below w w w1:=τ P d;have q0:=r0.below d r0.lt;have q1:=r1.below d r1.lt;have H:=r2.below d r2.lt;have L:=r3.below d r3.lt;have a0:w.heap.size+4<=w1.heap.size:=by have:=d.size;omega
 obtain⟨z0,z1⟩:=H.two;obtain⟨z2,z3⟩:=L.two;have y0:=H.free 0;have y1:=H.free 1;have y2:=L.free 0;have y3:=L.free 1;obtain⟨V,z⟩:=ξ ((((w1.setCell ⟨N2 w,0,none⟩ (.bool false)).setCell ⟨N2 w,1,none⟩ (.slice none 0 0)).setCell ⟨w.heap.size+1+1+1,0,none⟩ (.bool false)).setCell ⟨w.heap.size+1+1+1,1,none⟩ (.slice none 0 0));have g2:Row V (N2 w) 24 [.bool false,.slice none 0 0]:=by rw[z];exact(((H.af 0 (.bool false)).af 1 (.slice none 0 0)).other (by simp) _).other (by simp) _
 have g3:Row V (w.heap.size+1+1+1) 24 [.bool false,.slice none 0 0]:=by rw[z];exact(((L.other (by simp) _).other (by simp) _).af 0 (.bool false)).af 1 (.slice none 0 0)
 have u:Below w w V:=by rw[z];exact aw (aw (aw (aw O ω _) ω _) ω _) ω _
 obtain⟨f0,f1⟩:=g2.two;obtain⟨f2,f3⟩:=g3.two;have HV:=hid z;clear z;go_wp2;(try simp only[Exit.inBlock,Exit.then]);rw[<-HV.out];refine bodyPost_ret (v:= .tuple #[Ω false none 0 0,Ω false none 0 0,I 1]) (by simp[results,results86,go_sem,f0,f1,f2,f3]) rfl ?_;exact⟨u,rfl⟩
theorem tm(w:World)(B D fl:Bool)(E F:Option Addr)(G q:List Nat)(u k c1 M:Nat)(S:Lay .u32 w E G)(T:Lay .u32 w F q)(U:Lim G)(X:Lim q)(m:u=G.length)(p:k=q.length)(Y:u<=9223372036854775807)(Z:k<=9223372036854775807)(a0:(bn B G&&bn D q)=true)(hz:q.length=0):Calls prog 86 #[Ω B E u c1,Ω D F k M,.bool fl] w fun e w'=>nk w w' e 90:=by
 obtain⟨W,z,r0,r1,r2,r3,Q,R⟩:=qG w 24 (.bool B) (.slice E u c1) (.bool D) (.slice F k M) (.bool false) (.slice none 0 0) (.bool false) (.slice none 0 0);have N:=hid z;clear z;have j:=fun g h1 h2 h3=>dY (W.alloc (.cells #[.bool B,.slice E u c1,.bool D,.slice F k M] 24)) g B D E F G q u k c1 M h1 h2 h3 U X m p Y Z
 have Hm1:=hid m;clear m;have O:=hid p;clear p;have f:=j (w.heap.size+1+1+1+1) (by rw[<-R];exact cQ _ _ _) ((S.below Q).below ((Below.refl _ _).alloc ι _)) ((T.below Q).below ((Below.refl _ _).alloc ι _));rw[a0]at f;have HM:=hid f;clear j f;have hz1:((k:Int)==0)=true:=by rw[beq_iff_eq,O.out,hz];rfl
 clear hz;go_enter func86,ntmps86;go_wp2_with fail;rw[<-N.out];refine HM.out.mono ?_;rintro e w1 ⟨rfl,hbw⟩;have d:=bE hbw;have P:Below w w w1:=τ Q d;have q0:=r0.below d r0.lt;have q1:=r1.below d r1.lt;have H:=r2.below d r2.lt;have L:=r3.below d r3.lt;have a3:w.heap.size+4<=w1.heap.size:=by have:=d.size;omega
 obtain⟨c10,c11⟩:=q1.two;obtain⟨z0,z1⟩:=H.two;obtain⟨z2,z3⟩:=L.two;have y0:=H.free 0;have y1:=H.free 1;have y2:=L.free 0;have y3:=L.free 1;obtain⟨V,A⟩:=ξ ((((w1.setCell ⟨N2 w,0,none⟩ (.bool false)).setCell ⟨N2 w,1,none⟩ (.slice none 0 0)).setCell ⟨w.heap.size+1+1+1,0,none⟩ (.bool false)).setCell ⟨w.heap.size+1+1+1,1,none⟩ (.slice none 0 0));have g2:Row V (N2 w) 24 [.bool false,.slice none 0 0]:=by rw[A];exact(((H.af 0 (.bool false)).af 1 (.slice none 0 0)).other (by simp) _).other (by simp) _
 have g3:Row V (w.heap.size+1+1+1) 24 [.bool false,.slice none 0 0]:=by rw[A];exact(((L.other (by simp) _).other (by simp) _).af 0 (.bool false)).af 1 (.slice none 0 0)
 have x:Below w w V:=by rw[A];exact aw (aw (aw (aw P ω _) ω _) ω _) ω _
 obtain⟨f0,f1⟩:=g2.two;obtain⟨f2,f3⟩:=g3.two;have HV:=hid A;clear A;go_wp2;(try simp only[Exit.inBlock,Exit.then]);rw[<-HV.out];refine bodyPost_ret (v:= .tuple #[Ω false none 0 0,Ω false none 0 0,I 90]) (by simp[results,results86,go_sem,f0,f1,f2,f3]) rfl ?_;exact⟨x,rfl⟩
theorem A7{w1 X:World}{l:List (Nat×Int)}{p q r:Nat}{v x:Int}{k:Nat}(h:At w1 X l)(d:(p,v)∈l)(f:(q,x)∈l)(j:(r,(k:Int))∈l)(u:x≠0)(y:k<18446744073709551616)(z:(rep x.natAbs).length<=68719476736)(B:(rep (x^k).natAbs).length<=68719476736):Calls prog 82 #[E p,E q,E r,.pointer none] X fun e c=>e= .returned (E p)/\At w1 c (upd l p (x^k)):=by
 refine(xg X p q r v x k (h.ints _ d).1 (h.ints _ f).1 (h.ints _ j).1 u y z B).mono ?_;rintro e c ⟨rfl,h1,h2⟩;exact⟨rfl,h.set d h2 h1⟩
theorem k9(c:Bool)(n:Nat):(signed c n).natAbs=n:=by unfold signed;split<;>omega
theorem Cr{x:Nat}(h:2<=x):2<=dN x:=by
 rcases Nat.lt_or_ge (dN x) 2 with h1|h1
 ·have:x<2^1:=bitsN_le.1 ω;omega
 ·exact h1
theorem D1{E M:Nat}(h:E<32*M):2^E<Limb.W M:=by rw[dj];exact Nat.pow_lt_pow_right δ h
theorem AL{x k B:Nat}(j:B=dN x)(m:1<=B)(p:(B-1)*k<=32768)(o:k<=32768):(rep (x^k)).length<=68719476736:=by
 rw[rep_length_le];have h1:x<2^B:=by rw[j];exact bitsN_le.1 ι
 have b:x^k<=(2^B)^k:=Nat.pow_le_pow_left (Nat.le_of_lt h1) k;rw[<-Nat.pow_mul]at b
 have c:B*k<=65536:=by
  have:B*k=(B-1)*k+k:=(by rw[<-Nat.succ_mul];congr 1;omega);omega
 obtain⟨E,i,a⟩: ∃E,B*k<=E/\E<32*68719476736:=⟨65536,c,δ⟩;have d:2^(B*k)<=2^E:=Nat.pow_le_pow_right δ i;have f:2^E<Limb.W 68719476736:=D1 a;exact Nat.lt_of_le_of_lt b (Nat.lt_of_le_of_lt d f)
theorem cd{w1 X:World}{l:List (Nat×Int)}{p:Nat}{z:Int}(h:At w1 X l)(u:(p,z)∈l)(hs:(rep z.natAbs).length<=68719476736):Calls prog 81 #[E p] X fun e i=>(∃b a n c k,e=Rt #[Ω b a n c,I k]/\(∀d f,Below d.heap.size d f->(∀l,Lay .u32 i a l->Lay .u32 f a l)->d.heap.size<=w1.heap.size->Answer true d f e z))/\At w1 i l:=by
 refine(iL X p z (h.ints _ u).1 hs).mono ?_;rintro e i j;have q:=j.1;obtain⟨b,a,n,c,k,h1,_,r⟩:=(Answer.yes j).shape;exact⟨⟨b,a,n,c,k,h1,fun d f x y k=>r d f x y (Nat.le_trans k h.below.size)⟩,h.next q⟩
open Go.Shelf
attribute [local go_sem] Oper.semAt_some
theorem Closed.stops{F:Fence}{n:Nat}(q:F.fn 270)(e:F.round=none)(r:1<=n){b w:World}{u:Value}{k:Nat}{z:Int}{f g:Nat}{c:Bool}{a:Option Addr}{xs:List Nat}{cap:Nat}(H:Closed b u k z f g c a xs cap)(s:k<=1099511627776)(i:Below b b w):SeqStopsK F n prog 270 #[E f,E g] (fun x:Nat×Nat=> #[Value.int .i64 (x.1:Nat),Value.int .u32 (x.2:Nat)]) (Below b) (fun ys=>ys=kr (fun j=>(j,wd (two k z) j)) k) (fun d=> ∃j,j<=k/\d=kr (fun j=>(j,wd (two k z) j)) j) k w:=fun l J m W o _ _ p h0=>
 Eh F n q e r l k z u b f g c a xs cap s H J m p W (i.trans (o.mono i.size)) h0
theorem C8(F:Fence)(n:Nat)(h3:F.fn 249)(h5:F.fn 270)(hro:F.round=none)(hn:3<=n)(w:World)(u:Value)(k:Nat)(z:Int)(Bn Ba:Nat)(neg:Bool)(a:Option Addr)(xs:List Nat)(cap:Nat)(hk:k<=1073741824)(H:Closed w u k z Bn Ba neg a xs cap):CallsIn F n prog 249 #[u] w fun e W'=> ∃v,e= .returned v/\W'.ownsRow w 25 1 v k (aC .u32 (two k z))/\Below w w W':=by
 have h1:1<=n:=ω
 obtain⟨i0,hi,hz0,hz1,hz2⟩:=info_parts bz;have hu:=H.val;subst hu;have hTl:=hid (c7 k z);have hT:=hid (DH (two k z));rw[hTl.out]at hT;refine callsIn_of_wp_marks func249 rfl h3 ?_ hro;simp only[ntmps249,List.size_toArray,List.length_cons,List.length_nil,Nat.reduceAdd,Nat.reduceSub,Array.replicate_succ,Array.replicate_zero,List.push_toArray,List.append_toArray,List.nil_append,List.cons_append]
 gi_wp2;have bO:=Boxed.new w 22 (.slice none 0 0);have hB0:Below w w (w.alloc (.cells #[.slice none 0 0] 22)):=(Below.refl _ w).alloc ι _
 refine wpIn_rangeFunc_ownG hro h1 (gf:=270) (lb:= #[.pointer (some ⟨Bn,0,none⟩),.pointer (some ⟨Ba,0,none⟩)]) rfl h5 (enters_of func270 κ rfl)
  (H.stops h5 hro ω ω hB0) belowK_t (belowK_b (by simp)) (Below.refl _ _) (fun _=>rfl)
  (fun(pre:List (Nat×Nat)) W=>(∃v,Boxed W w 22 v/\W.ownsRow w 25 1 v pre.length (aC .u32 (pre.map Prod.snd))/\True)/\Below w w W)
  (fun _ _ _=>False)
  (OwnFrom.and (Own.from (holdsRow_own w w 22 25 1 (fun(pre:List (Nat×Nat))=>pre.length) (fun(pre:List (Nat×Nat))=>aC .u32 (pre.map Prod.snd)) (fun _ _=>True)) _) (ownFrom_below ι (by simp)))
  (fun _ _ _ _ _ hs _ _=>hs)
  ⟨⟨_,bO,World.ownsRow_nil _ _ _ _,trivial⟩,hB0⟩
  (fun(x:Nat×Nat)=>{tmps:= #[.func (.func 270) #[] #[E Bn,E Ba],undef,.slice none 0 0,.pointer (some ⟨w,0,none⟩),undef,.int .u32 (x.2:Nat),.func (.func 270) #[] #[E Bn,E Ba],.int .i64 (x.1:Nat),.int .u32 (x.2:Nat),undef,undef,undef,undef,undef],defers:=[]}) ?assign ?body ?done ?stop
 case assign=>
  intro l x W K hK
  gi_wp2;exact hK
 case body=>
  rintro l pre x W ⟨⟨v,hv,hrow,-⟩,hB⟩ hlt;have hc:=hv.cell;have hlt':pre.length+1<=maxLen:=Nat.le_trans (show pre.length+1<=1073741824 by omega) δ;have hsz:=hB.size
  gi_wp2_with (gi_at_builtin;refine wpListIn_append_own _ rfl _ _ 22 rfl w 25 i0 (Ψ 0) 1 4 underlying22 hi hz0 hz1 hz2 rfl δ _ _ _ rfl (hrow.alloc _) ⟨W.heap.size,0,none⟩ 1 1 [Ψ (x.2:Nat)] rfl rfl (cell_one_new _ _ _) (by simp[Value.oneCell']) (by first |exact hlt'|omega) ω (by rw[World.size_alloc];omega) ?_;intro v' w1 hown' hgrow _;obtain⟨g',cap',rfl⟩:=ownsRow_succ hown';obtain⟨hv1,hv2,hr2,hk2,hb2⟩:=hv.appended δ hrow hB.size ι hown' hgrow;have hc1:=hv1.cell;have hf1:=hv1.frozen);exact⟨hk2.from _,hb2,⟨_,hv2,by simpa[aC]using hr2,trivial⟩,hB.trans hb2⟩
 case done=>
  rintro D ys W hD rfl ⟨⟨v,hv,hrow,-⟩,hB⟩ hK;have hc:=hv.cell;rw[hT.out,iZ]at hrow
  gi_wp2;refine⟨by simp,.inl ⟨_,_,rfl,run_takeDeferred hK,?_⟩⟩;exact⟨_,results_tmp rfl _ _ _,v,rfl,ownsRow_putObj hrow _ hK rfl,hB.trans (belowK_b (w:=w) ι W D _ _ (by simp at hD;omega) hK rfl rfl)⟩
 case stop=>
  rintro D c pre W _ _ h _;exact h.elim
theorem mN(w:World)(u:Value)(k:Nat)(z:Int)(g j:Nat)(b:Bool)(a:Option Addr)(xs:List Nat)(cap:Nat)(r:k<=1073741824)(H:Closed w u k z g j b a xs cap):Calls prog 249 #[u] w fun e w'=> ∃d f,e= .returned (.slice d k f)/\k<=f/\Lay .u32 w' d (two k z)/\Below w w w':=by
 refine((callsIn_wide (n:=3)).1 (C8 Fence.wide 3 trivial trivial rfl ι w u k z g j b a xs cap r H)).mono ?_;rintro e x ⟨v,rfl,h1,h2⟩;obtain⟨d,f,rfl,p,t,q,_⟩:=dG h1;exact⟨d,f,rfl,p,q,h2⟩
end Go.Proofs.YtfefijlnbhbplaaGreatDoor
namespace Go.Proofs.YtfefijlnbhbplaaGreatDoor
open Go Go.RowKit Limb
theorem uM{p:Nat}{b v:Int}{l:List (Nat×Int)}(c:(((p,b) :: l).map Prod.fst).Nodup):upd ((p,b) :: l) p v=(p,v) :: l:=by
 unfold upd;rw[List.map_cons,if_pos rfl];congr 1;rw[List.map_cons,List.nodup_cons]at c;conv=>rhs;rw[<-List.map_id l]
 apply List.map_congr_left;intro q f;have:q.1≠p:=fun e=>c.1 (List.mem_map.2 ⟨q,f,e⟩)
 rw[if_neg this];rfl
end Go.Proofs.YtfefijlnbhbplaaGreatDoor

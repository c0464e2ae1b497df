/- Walks and laws that LargeData asks for. -/
import Derived.Test.YtfefijlnbhbplaaGreatDoorGX26
set_option linter.unusedVariables false
set_option linter.unusedSimpArgs false
set_option maxRecDepth 1000000
set_option maxHeartbeats 12800000
namespace Go.Proofs.YtfefijlnbhbplaaGreatDoor
open Go Lib Go.RowKit Limb Tryz
set_option linter.unusedSectionVars false
variable [Old]
def dI(j:Nat)(S L:List Nat):List Nat:=S.take j++L.drop j
theorem th(S L:List Nat):dI 0 S L=L:=by simp[dI]
theorem dR{j:Nat}{S L:List Nat}(h:S.length=L.length):(dI j S L).length=L.length:=by unfold dI;simp;omega
theorem wb{j:Nat}{S L:List Nat}(h:S.length=L.length)(a:S.length<=j):dI j S L=S:=by
 unfold dI;rw[List.take_of_length_le a,List.drop_of_length_le ω,List.append_nil]
theorem qc{S L:List Nat}(h:S.length=L.length)(j i:Nat)(b:i<L.length):wd (dI j S L) i=if i<j then wd S i else wd L i:=by
 unfold dI;by_cases a:i<j
 ·rw[if_pos a,eC (by rw[List.length_take];omega),wd_take a]
 ·rw[if_neg a,eP (by rw[List.length_take];omega),List.length_take,wd_drop];congr 1;omega
theorem vR{S L:List Nat}(h:S.length=L.length){j:Nat}(c:j<L.length):(dI j S L).set j (wd S j)=dI (j+1) S L:=by
 refine dX (by rw[List.length_set,dR h,dR h]) fun i b=>?_
 rw[List.length_set,dR h]at b;rw[cm (by rw[dR h];exact c),qc h _ _ b,qc h _ _ b];by_cases a:i=j
 ·subst a;simp
 ·rw[if_neg a];by_cases h1:i<j
  ·rw[if_pos h1,if_pos ω]
  ·rw[if_neg h1,if_neg ω]
theorem uF{z:Int}:(decide (z<0)=true->0<val (rep z.natAbs))/\z=if decide (z<0)then -(val (rep z.natAbs):Int)else(val (rep z.natAbs):Int):=by
 rw[aE];by_cases h:z<0
 ·simp[h];omega
 ·simp[h];omega
theorem Cw(w:World)(k:Nat)(hk:k=1∨k=2∨k=3)(v1 v2:Value)(x y:Int)(h1:ApiV w v1 x)(h2:ApiV w v2 y)(lx:(rep x.natAbs).length<=1024)(ly:(rep y.natAbs).length<=1024)(n:Nat)(hn:n=max (rep x.natAbs).length (rep y.natAbs).length+1)(ho:Old.top<=w.heap.size):Calls prog 130 #[I k,v1,v2] w fun e w'=> ∃u,e= .returned u/\ApiV w' u (kK k n x y)/\Below w w w':=by
 have HO:=hid ho;clear ho;obtain⟨a1,c1,rfl,-,hl1⟩:=h1;obtain⟨a2,c2,rfl,-,hl2⟩:=h2;obtain⟨hp1,hz1⟩:=uF (z:=x);obtain⟨hp2,hz2⟩:=uF (z:=y);obtain⟨m1,hm1⟩: ∃m,m=(rep x.natAbs).length:=⟨_,rfl⟩;obtain⟨m2,hm2⟩: ∃m,m=(rep y.natAbs).length:=⟨_,rfl⟩;obtain⟨s1,hs1⟩: ∃s,s=decide (x<0):=⟨_,rfl⟩;obtain⟨s2,hs2⟩: ∃s,s=decide (y<0):=⟨_,rfl⟩;rw[<-hs1]at hp1 hz1 ⊢;rw[<-hs2]at hp2 hz2 ⊢;rw[<-hm1]at lx hn ⊢;rw[<-hm2]at ly hn ⊢;obtain⟨r0,r1,r2,hW,hsz⟩:=fI w 24 (.bool s1) (.slice a1 m1 c1) (.bool s2) (.slice a2 m2 c2) (.bool false) (.slice none 0 0);obtain⟨V,hV⟩: ∃W,W=((w.alloc (.cells #[.bool s1,.slice a1 m1 c1] 24)).alloc (.cells #[.bool s2,.slice a2 m2 c2] 24)).alloc (.cells #[.bool false,.slice none 0 0] 24):=⟨_,rfl⟩;rw[<-hV]at r0 r1 r2 hW hsz;have HV:=hid hV;clear hV
 have hmax: ∀(ts:Array TypeId) (t:TypeId) (X:World),(Builtin.max_ ts t #[I (m1:Nat),I (m2:Nat)]).run prog X= .ok (I ((max m1 m2:Nat):Int)) X:=by
  intro ts t X;rw[run_max_int2];by_cases h:m1<m2
  ·rw[if_pos ω,Nat.max_eq_right ω]
  ·rw[if_neg ω,Nat.max_eq_left ω]
 obtain⟨N,hN⟩:=ξ (max m1 m2);rw[<-hN]at hmax hn;have hn1:m1<=n:=ω
 have hn2:m2<=n:=ω
 have hnb:n<=1073741824:=ω
 have hn1025:n<=1025:=ω
 have hn0:0<n:=ω
 have hNn:N<n:=ω
 have eN:(N:Int)+1=(n:Int):=ω
 have eN1:(n:Int)-1=(N:Int):=ω
 have eN2:n-1=N:=ω
 have HM1:=hid hm1;have HM2:=hid hm2;have HP1:=hid hp1;have HP2:=hid hp2;have HX:=hid hz1;have HYY:=hid hz2;have hlW1:=hl1.below hW;have hlW2:=hl2.below hW;have HY1:=hid (fun X (h:Below V V X)=>hlW1.below h);have HY2:=hid (fun X (h:Below V V X)=>hlW2.below h);have HR0:=hid (fun X (h:Below V V X)=>show X.cell? ⟨w,0,none⟩=some (.bool s1)/\X.cell? ⟨w,1,none⟩=some (.slice a1 m1 c1)from⟨(r0.below h r0.lt).ae 0,(r0.below h r0.lt).ae 1⟩);have HR1:=hid (fun X (h:Below V V X)=>show X.cell? ⟨N1 w,0,none⟩=some (.bool s2)/\X.cell? ⟨N1 w,1,none⟩=some (.slice a2 m2 c2)from⟨(r1.below h r1.lt).ae 0,(r1.below h r1.lt).ae 1⟩);have HRR:=hid (fun X (h:Below V V X)=>r2.below h r2.lt);obtain⟨q0,q1⟩:=r0.two;obtain⟨q2,q3⟩:=r1.two;obtain⟨S,hS⟩:=ξ (eO k (two n x) (two n y));have hSl:Hid (S.length=n):=hid (by rw[hS,iu (by rw[c7,c7]),c7]);have hSm:Hid (Lim S):=hid (by rw[hS];exact pW (fh _ _) (fh _ _));have hSw:Hid (∀j,j<n->wd S j=bop k (wd (two n x) j) (wd (two n y) j)):=hid (fun j hj=>by rw[hS,ui (by rw[c7];exact hj) (by rw[c7];exact hj)]);have hSr:Hid (S.length=(List.replicate n 0).length):=hid (by rw[hSl.out];simp);obtain⟨z,hzb⟩:=ξ (kK k n x y);have hz:z=iO S:=by rw[hzb,hS];rfl
 rw[<-hzb];have lz:(rep z.natAbs).length<=1026:=by rw[hz];exact Nat.le_trans (qm hSm.out) (by rw[hSl.out];omega)
 have Hz:=hid hz;clear hS hz hzb hsz r0 r1 r2 hm1 hm2 hp1 hp2 hz1 hz2 hl1 hl2 hlW1 hlW2 hs1 hs2 hn hN lx ly;go_enter func130,ntmps130;rw[HV.out]at q0 q1 q2 q3;go_upto_region 2 with fail
 rw[<-HV.out];clear hmax q0 q1 q2 q3;go_cut [8,9] (fun s8 s9 wx=> ∃at1 ct1 at2 ct2,s8= .slice at1 n ct1/\s9= .slice at2 n ct2/\Lay .u32 wx at1 (two n x)/\Lay .u32 wx at2 (two n y)/\Below V V wx)
 case first=>
  have hX:Below V V V.drew:=(Below.refl _ _).drew;refine wp_region_held (S:=fun X=>Below V V X) κ ?_;refine tk 0 (Ω s1 a1 m1 c1) ?_ (y:=fun X hX=>by obtain⟨i0,i1⟩:=HR0.out X hX;go_simp);refine tk 1 (I (n:Nat)) ?_;refine tk 3 (Ω s2 a2 m2 c2) ?_ (y:=fun X hX=>by obtain⟨i0,i1⟩:=HR1.out X hX;go_simp);refine tk 4 (I (n:Nat)) ?_;refine wo 2 ?_;unfold wpOp;go_simp;refine .inl ((jb _ s1 a1 (rep x.natAbs) m1 c1 n (HY1.out _ hX) (aB _) HM1.out hn1 hnb HP1.out x HX.out).mono ?_);rintro e X1 ⟨at1,ct1,rfl,hct1,T1,hb⟩;replace hX:=τ hX hb;clear hb;refine⟨hX,?_⟩;refine wo 5 ?_;unfold wpOp;go_simp;refine .inl ((jb _ s2 a2 (rep y.natAbs) m2 c2 n (HY2.out _ hX) (aB _) HM2.out hn2 hnb HP2.out y HYY.out).mono ?_);rintro e X2 ⟨at2,ct2,rfl,hct2,T2,hb⟩;replace T1:=T1.below hb;replace hX:=τ hX hb;clear hb;refine⟨hX,?_⟩;refine tk 6 (.slice at1 n ct1) ?_;refine tk 7 (.slice at2 n ct2) ?_;refine wpAnyH_done κ ?_ _;go_wp2_with fail;go_meet;exact⟨_,_,_,_,rfl,rfl,T1,T2,hX⟩
 case rest=>
 obtain⟨at1,ct1,at2,ct2,rfl,rfl,T1,T2,hX⟩:=hcut;obtain⟨b1,off1,hix,hcx,_⟩:=T1.use 22 25 underlying22 aK ct1;obtain⟨b2,off2,hiy,hcy,_⟩:=T2.use 22 25 underlying22 aK ct2;rw[c7]at hix hcx hiy hcy;have HIX:=hid hix;have HCX:=hid hcx;have HIY:=hid hiy;have HCY:=hid hcy;have hBw:=τ hW hX;have hRw:=HRR.out _ hX;have hsz2:w.heap.size+1+1<wc.heap.size:=hRw.lt;have hwz:=hBw.size;clear T1 T2 hix hcx hiy hcy hX HR0 HR1 HRR HY1 HY2 HX HYY HM1 HM2 HP1 HP2;go_wp2_with(at_make;refine aI rfl _ _ _ rfl 25 (Ψ 0) 4 underlying22 bz rfl _ _ _ _ n n rfl rfl rfl rfl ω ω ω ?_;intro w1 g hg1 hg2 hrow hbel);rw[<-aG,<-th S (List.replicate n 0)]at hrow;have hgw:w.heap.size<=g:=ω
 have hne:w.heap.size+1+1≠g:=ω
 have hRw1:=hRw.below hbel hRw.lt;go_loopw[31] (fun i wr=> ∃j:Nat,j<=n/\i= .int .i64 j/\Row wr g 25 (aC .u32 (dI j S (List.replicate n 0)))/\Row wr (N2 w) 24 [.bool false,.slice none 0 0]/\Below wc wc wr) (fun i _=>n-(intOf i).toNat);case atStart=>exact⟨0,ω,rfl,hrow,hRw1,hbel⟩
 case round=>
  obtain⟨j,hj,rfl,hr,hR,hB⟩:=hrel;clear hrow hRw hRw1 hbel;by_cases hlt:j<n
  ·have ix:=HIX.out wr .i64 j ω ω;rw[Int.toNat_natCast]at ix;have cx:=HCX.out wr hB j hlt;have iy:=HIY.out wr .i64 j ω ω;rw[Int.toNat_natCast]at iy;have cy:=HCY.out wr hB j hlt;have ixd:=HIX.out wr.drew .i64 j ω ω;have iyd:=HIY.out wr.drew .i64 j ω ω;rw[Int.toNat_natCast]at ixd iyd;have hcell:=hr.cell (i:=j) (by rw[dR hSr.out];simpa using hlt);have hfk:=hr.free j;have ig:=aX (P:=prog) underlying22 aK g n n .i64 (j:Int) j rfl hlt;have hset:=hid (vR hSr.out (j:=j) (by simpa using hlt));rw[hSw.out j hlt]at hset;obtain⟨d1,hd1⟩: ∃d,d=wd (two n x) j:=⟨_,rfl⟩;obtain⟨d2,hd2⟩: ∃d,d=wd (two n y) j:=⟨_,rfl⟩;have ld1:d1<4294967296:=by rw[hd1];exact(fh _ _).wd j
   have ld2:d2<4294967296:=(by rw[hd2];exact(fh _ _).wd j);rw[<-hd1]at hset cx;rw[<-hd2]at hset cy;clear hd1 hd2;rcases hk with rfl|rfl|rfl
   ·have eb:=u32_and_nat d1 d2 ld1 ld2;have hset2:Hid ((dI j S (List.replicate n 0)).set j (d1&&& d2)=dI (j+1) S (List.replicate n 0)):=hid hset.out;clear ld1 ld2 hset;go_wp2;go_region
    all_goals
     go_wp2;go_roundw
    case rel=>exact⟨j+1,ω,by go_num,by rw[<-hset2.out];exact(hr.store _ _ _ (by first |rfl|exact eb)).drew,(hR.other (by exact hne) _).drew,(aw hB ω _).drew⟩
    case measure=>exact μ
   ·have eb:=u32_or_nat d1 d2 ld1 ld2;have hset2:Hid ((dI j S (List.replicate n 0)).set j (d1|||d2)=dI (j+1) S (List.replicate n 0)):=hid hset.out;clear ld1 ld2 hset;go_wp2;go_region
    all_goals
     go_wp2;go_roundw
    case rel=>exact⟨j+1,ω,by go_num,by rw[<-hset2.out];exact(hr.store _ _ _ (by first |rfl|exact eb)).drew,(hR.other (by exact hne) _).drew,(aw hB ω _).drew⟩
    case measure=>exact μ
   ·have eb:=u32_xor_nat d1 d2 ld1 ld2;have hset2:Hid ((dI j S (List.replicate n 0)).set j (d1^^^d2)=dI (j+1) S (List.replicate n 0)):=hid hset.out;clear ld1 ld2 hset;go_wp2;go_region
    all_goals
     go_wp2;go_roundw
    case rel=>exact⟨j+1,ω,by go_num,by rw[<-hset2.out];exact(hr.store _ _ _ (by first |rfl|exact eb)).drew,(hR.other (by exact hne) _).drew,(aw hB ω _).drew⟩
    case measure=>exact μ
  ·obtain rfl:j=n:=ω
   rw[wb hSr.out (by rw[hSl.out];exact Nat.le_refl _)]at hr;have hBV:=τ hBw hB;clear hB hBw HIX HIY HCX HCY;have hcell:=hr.cell (i:=N) (by rw[hSl.out];exact hNn);have ig:=aX (P:=prog) underlying22 aK g j j .i64 (N:Int) N rfl hNn;obtain⟨d,hd⟩:=ξ (wd S N);rw[<-hd]at hcell;by_cases hneg:d<2147483648
   ·have dd:decide ((d:Int)<2147483648)=true:=(by rw[decide_eq_true_eq];omega);have dd':decide (d<2147483648)=true:=by rw[decide_eq_true_eq];exact hneg
    have hu:=qR (s:=S) (by rw[hSl.out,eN2,<-hd];exact hneg);have hzv:val S=z.natAbs:=by rw[Hz.out,hu];rfl
    have hz0:0<=z:=(by rw[Hz.out,hu];omega);have Hl:=hid hSl.out.symm;have HM:=hid (dQ wr false (some ⟨g,0,none⟩) S j j z hr.lay hSm.out Hl.out ω (CapB.new ι (Nat.le_trans HO.out hgw)) hzv ⟨fun h=>(by cases h),fun _=>hz0⟩);clear hd hneg hu hzv hz0;go_wp2_with fail;refine HM.out.mono ?_;rintro e w4 ⟨u,rfl,hu,hb⟩;obtain⟨a,c,rfl,k0,k1,k2,k3,e0,e1,hf⟩:=fe hR hBV ω hu hb;go_wp2;refine bodyPost_ret (v:=Ω (decide (z<0)) a (rep z.natAbs).length c) (by simp[results,results130,go_sem,e0,e1]) rfl ?_;exact⟨_,rfl,hf.out⟩
   ·have dd:decide ((d:Int)<2147483648)=false:=(by rw[decide_eq_false_iff_not];omega);have dd':decide (d<2147483648)=false:=by rw[decide_eq_false_iff_not];exact hneg
    obtain⟨hu,hua,hul⟩:=qx (s:=S) hSm.out (by rw[hSl.out,eN2,<-hd];exact hneg);rw[<-Hz.out]at hu hua hul;have HU:=hid hua;have HUL:=hid hul;clear hd hneg hu hua hul;go_wp2;go_loopw[86] (fun i wr=> ∃i':Nat,i'<=j/\i= .int .i64 i'/\Row wr g 25 (aC .u32 (gD i' S))/\Row wr (N2 w) 24 [.bool false,.slice none 0 0]/\Below w w wr) (fun i _=>j-(intOf i).toNat);case atStart=>exact⟨0,ω,rfl,by rw[k8];exact hr,hR,hBV⟩
    case round=>
     obtain⟨i',hi',rfl,hri,hRi,hBi⟩:=hrel;clear hcell ig hr hR hBV;by_cases hlt2:i'<j
     ·have hcell:=hri.cell (i:=i') (by rw[cV,hSl.out];exact hlt2);rw[iW _ _ (by rw[hSl.out];exact hlt2),if_neg (Nat.lt_irrefl _)]at hcell;have hset:=hid (mi (l:=S) (j:=i') (by rw[hSl.out];exact hlt2));have hfk:=hri.free i';have ig:=aX (P:=prog) underlying22 aK g j j .i64 (i':Int) i' rfl hlt2;obtain⟨x',hx⟩:=ξ (wd S i');have hxl:x'<4294967296:=by rw[hx];exact hSm.out.wd i'
      rw[<-hx]at hcell hset;have e3:=nt hxl;obtain⟨y',hy⟩:=ξ (4294967295-x');rw[<-hy]at e3 hset;clear hx hxl hy;go_wp2;go_roundw;case rel=>exact⟨i'+1,ω,by go_num,by rw[<-hset.out];exact hri.store _ _ _ e3,hRi.other (by exact hne) _,aw hBi hgw _⟩
      case measure=>exact μ
     ·obtain rfl:i'=j:=ω
      rw[lU (by rw[hSl.out];exact Nat.le_refl _)]at hri;have hIl:Hid (i'=(inv S).length):=hid (by rw[cY,hSl.out]);have hb1:Below wr.heap.size wr (wr.alloc (.cells #[Ψ 1] 25)):=(Below.refl _ _).alloc ι _;have h1:=kO wr 25 .u32 1 1 rfl;go_wp2_with fail;refine(ol _ (some ⟨g,0,none⟩) (some ⟨wr.heap.size,0,none⟩) (inv S) [1] i' 1 i' 1 i' (hri.lay.below hb1) h1 (nh _) (Lim.cons δ Lim.nil) hIl.out rfl ι hn0 ω).mono ?_;rintro e w3 ⟨a3,n3,c3,zs3,rfl,hn3,hc3,hm3,hl3,hv3,hla3,hb3,hf3⟩;have hzv:val zs3=z.natAbs:=by rw[hv3,HU.out];rfl
      have hB3:=hBi.trans ((hb1.trans (hb3.mono hb1.size)).mono hBi.size);have hR3:=hRi.below (hb1.trans (hb3.mono hb1.size)) hRi.lt;have HM:=hid (dQ w3 true a3 zs3 n3 c3 z hla3 hl3 hn3 ω (CapB.mono (B:=(wr.alloc (.cells #[Ψ 1] 25)).heap.size) ⟨hc3,hf3⟩ (Nat.le_trans HO.out (Nat.le_trans hBi.size hb1.size))) hzv ⟨fun _=>by have:=HUL.out;omega,fun h=>(by cases h)⟩);clear hv3 hn3 hl3 hla3 hf3 hzv hri hRi;go_wp2_with fail;refine HM.out.mono ?_;rintro e w4 ⟨u,rfl,hu,hb⟩;obtain⟨a,c,rfl,k0,k1,k2,k3,e0,e1,hf⟩:=fe hR3 hB3 ω hu hb;go_wp2;refine bodyPost_ret (v:=Ω (decide (z<0)) a (rep z.natAbs).length c) (by simp[results,results130,go_sem,e0,e1]) rfl ?_;exact⟨_,rfl,hf.out⟩
end Go.Proofs.YtfefijlnbhbplaaGreatDoor

/- Walks and laws that LargeData asks for. -/
import Derived.Test.YtfefijlnbhbplaaGreatDoorGX07
import Derived.Test.YtfefijlnbhbplaaGreatDoorGX09
set_option linter.unusedVariables false
set_option linter.unusedSimpArgs false
set_option maxRecDepth 1000000
set_option maxHeartbeats 6400000
namespace Go.Proofs.YtfefijlnbhbplaaGreatDoor
open Go Lib Go.RowKit Limb Tryz
theorem Ek{bs:List Nat}{L k x:Nat}(o:bs.length=L)(p:4*(k+1)<=L){l:List Nat}(m:x=wd l k)(h: ∀j,j<4*k->wd bs (L-1-j)=byt l j): ∀j,j<4*(k+1)->wd ((((bs.set (L-4*k-1) (x%256)).set (L-4*k-2) (x/256%256)).set (L-4*k-3) (x/65536%256)).set (L-4*k-4) (x/16777216%256)) (L-1-j)=byt l j:=by
 intro j n;rw[cm (by simp only[List.length_set];omega),cm (by simp only[List.length_set];omega),cm (by simp only[List.length_set];omega),cm ω]
 have e: ∀t,t<4->byt l (4*k+t)=x/256^t%256:=by
  intro t ht;unfold byt;rw[show(4*k+t)/4=k from ω,show(4*k+t)%4=t from ω,m]
 have a:=e 0 ω;have b:=e 1 ω;have c:=e 2 ω;have d:=e 3 ω;simp only[(φ:256^0=1),(φ:256^1=256),(φ:256^2=65536),(φ:256^3=16777216),Nat.div_one]at a b c d;by_cases f:j=4*k+3
 ·rw[if_pos ω,f,d]
 ·rw[if_neg ω];by_cases g:j=4*k+2
  ·rw[if_pos ω,g,c]
  ·rw[if_neg ω];by_cases c1:j=4*k+1
   ·rw[if_pos ω,c1,b]
   ·rw[if_neg ω];by_cases i:j=4*k
    ·rw[if_pos ω,i];exact a.symm
    ·rw[if_neg ω];exact h j ω
theorem wW{f g:Nat->Nat}(k:Nat)(h: ∀i,i<k->f i=g i):ke f k=ke g k:=by
 induction k with
 |zero=>rfl
 |succ k ih=>rw[ke,ke,ih (fun i a=>h i ω),h k ω]
theorem p8(w:World)(neg:Bool)(a:Option Addr)(l:List Nat)(n cap:Nat)(hlay:Lay .u32 w a l)(hlim:Lim l)(hn:n=l.length)(hm:n<=68719476736):Calls prog 78 #[Ω neg a n cap] w fun e w'=> ∃p,e= .returned (E p)/\w.heap.size<=p/\IntAt w' p (signed neg (val l))/\Below w w w':=by
 obtain⟨b1,off1,hix,hcx,_⟩:=hlay.use 22 25 underlying22 aK cap;rw[<-hn]at hix hcx;have Hn:=hid hn;clear hn;have HX:=hid hix;clear hix;have HCX:=hid hcx;clear hcx;obtain⟨L,hL1,hL2⟩: ∃L,L<=4*n/\4*n<=L:=⟨4*n,ω,ω⟩;have hbox:Row (w.alloc (.cells #[.bool neg,.slice a n cap] 24)) w 24 [.bool neg,.slice a n cap]:=by unfold Row;exact heap_alloc_new _ _
 go_enter func78,ntmps78;go_wp2_with(at_make;refine aI rfl _ _ _ rfl 5 (.int .u8 0) 1 underlying50 iT rfl _ _ _ _ L L rfl rfl ω ω ω ω ω ?_;intro w1 g hg1 hg2 hrow hbel;have hbox1:=hbox.below hbel (by rw[World.size_alloc];omega);have c1:w1.cell? ⟨w,1,none⟩=some (.slice a n cap):=hbox1.ae 1);rw[World.size_alloc]at hg1 hbel;have hb0:=hbel.mono (show w.heap.size<=w.heap.size+1 by omega);have hB1:Below w w w1:=((Below.refl _ _).alloc ι _).trans hb0;clear c1 hbox;go_loopw[16] (fun i wr=> ∃(k:Nat) (bs:List Nat),k<=n/\i= .int .i64 k/\bs.length=L/\(∀i,wd bs i<256)/\(∀j,j<4*k->wd bs (L-1-j)=byt l j)/\Row wr g 5 (aC .u8 bs)/\Below (N1 w) w1 wr) (fun i _=>n-(intOf i).toNat);case atStart=>exact⟨0,List.replicate L 0,ω,rfl,by simp,fun i=>by rw[cF];decide,fun j hj=>absurd hj ω,by rw[aG];exact hrow,Below.refl _ _⟩
 case round=>
  obtain⟨k,bs,hk,rfl,hbl,hlt8,hd,hr,hbw⟩:=hrel;have hBw:Below w w wr:=hB1.trans (hbw.mono ω);have hboxr:=hbox1.below hbw ω;have HL:=hid hbl;clear hbl;have H8:=hid hlt8;clear hlt8;have HD:=hid hd;clear hd;have h1:=hlim.wd k;by_cases hlt:k<n
  ·have ix:=HX.out wr .i64 k ω ω;rw[Int.toNat_natCast]at ix;have cx:=HCX.out wr hBw k hlt;obtain⟨x,hx⟩:=ξ (wd l k);rw[<-hx]at cx h1;have HX':=hid hx;clear hx;have i1:=aX (P:=prog) underlying50 fJ g L L .i64 ((L:Int)-4*k-1) (L-4*k-1) ω ω;have i2:=aX (P:=prog) underlying50 fJ g L L .i64 ((L:Int)-4*k-2) (L-4*k-2) ω ω;have i3:=aX (P:=prog) underlying50 fJ g L L .i64 ((L:Int)-4*k-3) (L-4*k-3) ω ω;have i4:=aX (P:=prog) underlying50 fJ g L L .i64 ((L:Int)-4*k-4) (L-4*k-4) ω ω;have r1:=hr.store (L-4*k-1) ((x:Int)%256) (x%256) ω;have r2:=r1.store (L-4*k-2) ((x:Int)/256%256) (x/256%256) ω;have r3:=r2.store (L-4*k-3) ((x:Int)/65536%256) (x/65536%256) ω;have r4:=r3.store (L-4*k-4) ((x:Int)/16777216) (x/16777216%256) ω;have k1:=hr.cell (i:=L-4*k-1) (by rw[HL.out];omega);have k2:=r1.cell (i:=L-4*k-2) (by rw[List.length_set,HL.out];omega);have k3:=r2.cell (i:=L-4*k-3) (by rw[List.length_set,List.length_set,HL.out];omega);have k4:=r3.cell (i:=L-4*k-4) (by rw[List.length_set,List.length_set,List.length_set,HL.out];omega);have f1:=hr.free (L-4*k-1);have f2:=r1.free (L-4*k-2);have f3:=r2.free (L-4*k-3);have f4:=r3.free (L-4*k-4);clear r1 r2 r3;go_wp2;go_roundw
   case rel=>
    refine⟨k+1,(((bs.set (L-4*k-1) (x%256)).set (L-4*k-2) (x/256%256)).set (L-4*k-3) (x/65536%256)).set (L-4*k-4) (x/16777216%256),ω,by go_num,by simp only[List.length_set];exact HL.out,?_,Ek HL.out ω HX'.out HD.out,r4,aw (aw (aw (aw hbw hg1 _) hg1 _) hg1 _) hg1 _⟩;intro i;rw[cm (by simp only[List.length_set];rw[HL.out];omega),cm (by simp only[List.length_set];rw[HL.out];omega),cm (by simp only[List.length_set];rw[HL.out];omega),cm (by rw[HL.out];omega)];split
    ·omega
    ·split
     ·omega
     ·split
      ·omega
      ·split
       ·omega
       ·exact H8.out i
   case measure=>exact μ
  ·obtain rfl:k=n:=ω
   have hfin:Hid (ke (fun i=>wd bs (L-1-i)) L=val l):=by
    unfold Hid;rw[wW L (fun i hi=>HD.out i ω),show L=4*k from ω,we hlim,List.take_of_length_le (by rw[Hn.out];exact Nat.le_refl _)]
   have c0:wr.cell? ⟨w,0,none⟩=some (.bool neg):=hboxr.ae 0;have hlb:=hr.lay;have hnew:=IntAt.new wr;clear h1;go_wp2_with fail;refine(rN _ wr.heap.size 0 (some ⟨g,0,none⟩) bs L L hnew (hlb.below ((Below.refl _ _).alloc ι _)) HL.out.symm H8.out ω).mono ?_;rw[hfin.out];rintro e w2 ⟨rfl,h2,h3⟩;have hO:Only [] wr w2:=((Only.refl [] wr).alloc _).trans h3 (fun q hq=>by rw[List.mem_singleton]at hq;exact Or.inr ω);have hB2:Below w w w2:=hBw.trans (hO.below.mono (hBw.size));have c0':w2.cell? ⟨w,0,none⟩=some (.bool neg):=(hboxr.only hO (by simp)).ae 0;have hsz:w.heap.size<=wr.heap.size:=hBw.size;cases neg with
   |false=>
    go_wp2;go_ret;exact⟨_,rfl,hsz,h2,hB2⟩
   |true=>
    go_wp2_with fail;refine(xM _ wr.heap.size wr.heap.size _ _ h2 h2 ?_).mono ?_
    ·rw[Int.natAbs_natCast];exact Nat.le_trans (aQ hlim) (by rw[<-Hn.out];omega)
    rintro e w3 ⟨rfl,h4,h5⟩;go_wp2;go_ret;exact⟨_,rfl,hsz,h4,hB2.trans (h5.ah hB2.size (fun p hp=>by rw[List.mem_singleton]at hp;omega))⟩
theorem iG(w:World)(a b:Option Addr)(x y n m:Nat)(ca cb:Nat)(k:Lay .u32 w a (rep x))(o:Lay .u32 w b (rep y))(p:n=(rep x).length)(q:m=(rep y).length)(r:n<=1099511627776)(u:m<=1099511627776):Calls prog 164 #[.slice a n ca,.slice b m cb] w fun e w'=> ∃a c s,e= .returned (.slice a s c)/\s=(rep (x*y)).length/\s<=c/\Lay .u32 w' a (rep (x*y))/\Below w w w':=by
 have:=yO w a b (rep x) (rep y) n m ca cb k o (aB _) (aB _) p q r u;rw[aE,aE]at this;exact this.mono fun e w' ⟨a,c,h1,d,_,f,j⟩=>⟨a,c,_,h1,rfl,d,f,j⟩
theorem Ej(w:World)(p q r:Nat)(v x y:Int)(hp:IntAt w p v)(hq:IntAt w q x)(hr:IntAt w r y)(U:p≠q)(V:p≠r)(hs:(rep x.natAbs).length<=68719476736)(ht:(rep y.natAbs).length<=68719476736):Calls prog 185 #[E p,E q,E r] w fun e w'=>fD w w' e p (x*y):=by
 obtain⟨H,M,N,k,O,D,hc1,P,f⟩:=hq.use;obtain⟨I,Q,R,u,S,F,hc2,T,j⟩:=hr.use;rw[<-D.out]at hs;rw[<-F.out]at ht
 have h1: ∀w',Only [p] w w'->w'.cell? ⟨q,0,none⟩=some (.bool H)/\w'.cell? ⟨q,1,none⟩=some (.slice M N k)/\w'.cell? ⟨r,0,none⟩=some (.bool I)/\w'.cell? ⟨r,1,none⟩=some (.slice Q R u):=by
  intro w' ho;have X:=fun i=>World.cell?_of_block (a:=⟨q,i,none⟩) (ho.block q hq.lt (by simp;exact fun e=>U e.symm))
  have Y:=fun i=>World.cell?_of_block (a:=⟨r,i,none⟩) (ho.block r hr.lt (by simp;exact fun e=>V e.symm))
  rw[X,X,Y,Y];exact⟨(f w (Only.refl _ _)).1,(f w (Only.refl _ _)).2,(j w (Only.refl _ _)).1,(j w (Only.refl _ _)).2⟩
 clear f j;obtain⟨z,L⟩:=ξ (x*y);rw[<-L];have A:z.natAbs=x.natAbs*y.natAbs:=by rw[L,Int.natAbs_mul]
 have B:((H != I)=true->z<=0)/\((H != I)=false->0<=z):=by
  rw[L,O.out,S.out];constructor<;>intro h<;>by_cases hx:x<0<;>by_cases hy:y<0<;>simp[hx,hy]at h
  ·exact Int.mul_nonpos_of_nonpos_of_nonneg ω ω
  ·exact Int.mul_nonpos_of_nonneg_of_nonpos ω ω
  ·exact Int.mul_nonneg_of_nonpos_of_nonpos ω ω
  ·exact Int.mul_nonneg ω ω
 have Z:=hid A;clear A;have HS:=hid B;clear B L;have G:=hid h1;clear h1;obtain⟨c0,c1,d0,d1⟩:=G.out w (Only.refl _ _);go_enter func185,ntmps185;go_wp2
 go_region_held3 (fun w'=>w'.cell? ⟨q,0,none⟩=some (.bool H)/\w'.cell? ⟨q,1,none⟩=some (.slice M N k)/\w'.cell? ⟨r,0,none⟩=some (.bool I)/\w'.cell? ⟨r,1,none⟩=some (.slice Q R u))
  (first |exact G.out _ (Only.refl _ _).drew|exact G.out _ (Only.of_below (cz hb1))|exact G.out _ C)
  (first |(go_at_call 164;refine(iG _ M Q x.natAbs y.natAbs N R k u ?_ ?_ D.out F.out ω ω).mono ?_;exact P.drew;exact T.drew;rintro e w1 ⟨a3,c3,s3,rfl,hh,h2,h3,hb1⟩;have HH:=hid hh;clear hh)|(go_at_call 159;refine(ck _ p v z _ _ _ _ ?_ ?_ ?_ ?_ HS.out).mono ?_;exact hp.drew.below hb1;rw[Z.out];exact h3;rw[Z.out];exact HH.out;exact h2;rintro e w2 ⟨rfl,h5,h6⟩;have C:=(Only.of_below (ps:=[p]) (cz hb1)).trans h6 (by simp)))
 all_goals go_wp2
 all_goals go_ret
 all_goals exact⟨rfl,h5,C⟩
theorem l5{x y:Nat}(h:y<=x):0<=cX x y:=by unfold cX;rw[if_neg ω];split<;>omega
theorem kW{x y:Nat}(h:x<y):cX x y<0:=by unfold cX;rw[if_pos h];omega
theorem fV(w:World)(a b:Option Addr)(xs ys:List Nat)(n m ca cb:Nat)(U:Lay .u32 w a xs)(V:Lay .u32 w b ys)(z:Lim xs)(A:Lim ys)(X:fN xs)(Y:fN ys)(v:n=xs.length)(x:m=ys.length)(ln:n<=9223372036854775807)(lm:m<=9223372036854775807):Calls prog 201 #[.slice a n ca,.slice b m cb] w fun e w'=>e= .returned (I (cX (val xs) (val ys)))/\∃q,w'=w.drewN q:=by
 rcases Nat.lt_trichotomy n m with h|h|h
 ·rw[kB z A Y ω];clear v x;have y:((n:Int) != (m:Int))=true:=by rw[bne_iff_ne];omega
  go_enter func201,ntmps201;go_wp2;go_ret;exact⟨rfl,0,rfl⟩
 ·obtain⟨b1,L,f,g,_⟩:=U.use 22 25 underlying22 aK ca;obtain⟨b2,M,p,r,_⟩:=V.use 22 25 underlying22 aK cb;subst h;rw[<-v]at f g;rw[<-x]at p r;have B:=hid v;clear v;have F:=hid x;clear x;have P:=hid f;clear f;have Q:=hid p;clear p;have C:=hid g;clear g;have D:=hid r;clear r;go_enter func201,ntmps201;go_wp2;go_loopw[5] (fun i T=> ∃(k:Nat),k<=n/\i= .int .i64 ((k:Int)-1)/\xs.drop k=ys.drop k/\∃q,T=w.drewN q) (fun i _=>((intOf i)+1).toNat);case atStart=>exact⟨n,Nat.le_refl _,rfl,by rw[List.drop_of_length_le (by rw[B.out];exact Nat.le_refl _),List.drop_of_length_le (by rw[F.out];exact Nat.le_refl _)],0,rfl⟩
  case round=>
   obtain⟨k,hk,rfl,O,q,rfl⟩:=hrel;have G:=hid O;clear O;by_cases h0:k=0
   ·have d:Hid (xs=ys):=(by have:=G.out;rw[h0]at this;unfold Hid;simpa using this);subst h0;go_wp2;go_ret;exact⟨by rw[d.out];simp[cX],q,rfl⟩
   ·obtain⟨j,rfl⟩: ∃j,k=j+1:=⟨k-1,ω⟩;have H:((j+1:Nat):Int)-1=(j:Int):=ω
    rw[H];clear H h0;have R:=fun q=>P.out (w.drewN q) .i64 j ω ω
    have S:=fun q=>Q.out (w.drewN q) .i64 j ω ω
    simp only[Int.toNat_natCast]at R S;have Z:=C.out w (Below.refl _ _) j ω;have cy:=D.out w (Below.refl _ _) j ω;have u:=CK z A (by rw[<-B.out,<-F.out]) (k:=j) (by rw[<-B.out];omega) G.out;have h1:=z.wd j;have h2:=A.wd j;have E:=hid u;clear u;rcases Nat.lt_trichotomy (wd xs j) (wd ys j)with h|h|h
    ·have y:(((wd xs j:Nat):Int) != ((wd ys j:Nat):Int))=true:=(by rw[bne_iff_ne];omega);have d:=hid (E.out.1 h);go_wp2;go_quiet (fail);go_wp2;go_quiet (fail);go_wp2;go_ret;rw[d.out];exact⟨rfl,by first |exact⟨_,rfl⟩|(simp only[World.drewN_drewN];exact⟨_,rfl⟩)⟩
    ·have y:(((wd xs j:Nat):Int) != ((wd ys j:Nat):Int))=false:=(by rw[bne_eq_false_iff_eq];omega);have d:=hid (E.out.2.2 h);clear h;go_wp2;go_quiet (fail);go_wp2;go_roundw;case rel=>exact⟨j,ω,rfl,d.out,by first |exact⟨_,rfl⟩|(simp only[World.drewN_drewN];exact⟨_,rfl⟩)⟩
     case measure=>first |(simp[intOf];done)|(simp[intOf];omega)
    ·have y:(((wd xs j:Nat):Int) != ((wd ys j:Nat):Int))=true:=(by rw[bne_iff_ne];omega);have d:=hid (E.out.2.1 h);go_wp2;go_quiet (fail);go_wp2;go_quiet (fail);go_wp2;go_ret;rw[d.out];exact⟨rfl,by first |exact⟨_,rfl⟩|(simp only[World.drewN_drewN];exact⟨_,rfl⟩)⟩
 ·rw[oM z A X ω];clear v x;have y:((n:Int) != (m:Int))=true:=by rw[bne_iff_ne];omega
  go_enter func201,ntmps201;go_wp2;go_ret;exact⟨rfl,0,rfl⟩
end Go.Proofs.YtfefijlnbhbplaaGreatDoor

/- The walk of FillBytes of package big's integers. The walk of large.wide. The walk of Mul of package big's integers. The walks of QuoRem and Mod of package big's integers. The walk of big.text: a number's digits to a base. The walks of package oop: Small, Value. -/
import Derived.Test.YtbffpkmfhkphdaaGreatDoorGX09
import Derived.Test.YtbffpkmfhkphdaaGreatDoorGX03
import Derived.Test.YtbffpkmfhkphdaaGreatDoorGX01
import Derived.Laws.BytesArg
import Derived.RegionTactic
import Derived.BigRegion
import Derived.ChangeAlike
set_option linter.unusedVariables false
set_option linter.unusedSimpArgs false
set_option maxRecDepth 1000000
set_option maxHeartbeats 6400000
namespace Go.Proofs.YtbffpkmfhkphdaaGreatDoor
open Go Lib Go.RowKit Limb
theorem Lay.notRow{w:World}{a:Option Addr}{l bs:List Nat}{g:Nat}{e:TypeId}{K K':IntKind}(h:Lay K w a l)(hr:Row w g e (nums K' bs))(hk:K≠K'):0<l.length→∀b off,a=some ⟨b,off,none⟩→b∉[g]:=by
 intro hl b off e hm;rw[List.mem_singleton]at hm;subst hm;obtain⟨b',off',h1,h2⟩:=h;have h3:=(h1 hl).1;rw[e]at h3;simp only[Option.some.injEq,Addr.mk.injEq,and_true]at h3;obtain⟨rfl,rfl⟩:=h3;have h4:=h2 0 hl;rw[hr.cell_at]at h4;obtain⟨hlt,h5⟩:=List.getElem?_eq_some_iff.1 h4;rw[nums_length]at hlt;simp only[nums,List.getElem_map]at h5;injection h5 with h6
 exact hk h6.symm
theorem int_fillbytes(w:World)(q g:Nat)(z:Int)(bs:List Nat)(L cap:Nat)(hq:IntAt w q z)(hr:Row w g 5 (nums .u8 bs))(hL:bs.length=L)(hqg:q≠g)(hm:L≤1099511627776)(hs:(rep z.natAbs).length≤68719476736):Calls Tryz.prog 147 #[.pointer (some ⟨q,0,none⟩),.slice (some ⟨g,0,none⟩) L cap] w fun e w'=>e= .returned (.slice (some ⟨g,0,none⟩) L cap)∧Only [g] w w'∧∃bs',Row w' g 5 (nums .u8 bs')∧bs'.length=L∧∀j,j<L→wd bs' (L-1-j)=byt (rep z.natAbs) j:=by
 obtain⟨b,a,n,cap1,Hb,Hn,hc,hl,hcells⟩:=hq.use;have hng:=hl.notRow hr (by decide)
 have h1: ∀w',Only [g] w w'→w'.cell? ⟨q,1,none⟩=some (.slice a n cap1)∧Lay .u32 w' a (rep z.natAbs):=by
  intro w' ho;rw[World.cell?_of_block (a:=⟨q,1,none⟩) (ho.block q hq.lt (by simp;exact hqg))];exact⟨(hcells w (Only.refl _ _)).2,hl.only ho hng⟩
 rw[←Hn.out]at hs;have H1:=hid h1;clear h1 hcells hng;have HL:=hid hL;clear hL;go_enter Tryz.func147,Tryz.ntmps147;go_wp2;go_loopw[8] (fun i wr=> ∃(k:Nat) (bs':List Nat),k≤L∧i= .int .i64 k∧bs'.length=L∧Row wr g 5 (nums .u8 bs')∧(∀j,j<k→wd bs' (L-1-j)=byt (rep z.natAbs) j)∧Only [g] w wr) (fun i _=>L-(intOf i).toNat);case atStart=>exact⟨0,bs,by omega,rfl,HL.out,hr,fun j hj=>absurd hj (by omega),Only.refl _ _⟩
 case round=>
  obtain⟨k,bs',hk,rfl,hl',hr',hd,ho⟩:=hrel;obtain⟨c1,hlr⟩:=H1.out wr ho;have HL':=hid hl';clear hl';have HD:=hid hd;clear hd;by_cases hlt:k<L
  ·obtain⟨d,hd⟩: ∃d,d=k/4:=⟨_,rfl⟩;obtain⟨r,hrr⟩: ∃r,r=k%4:=⟨_,rfl⟩;have e1:(k:Int)/4=d:=by omega
   have e2:(k:Int)%4=r:=(by omega);have r_lt:r<4:=by omega
   have b_x:=(rep_lim z.natAbs).wd d;have hby:byt (rep z.natAbs) k=wd (rep z.natAbs) d/256^r%256:=by unfold byt;rw[←hd,←hrr]
   have HB:=hid hby;clear hby;have Hd:=hid hd;clear hd;clear hrr;have hdig:=big_digit wr a (rep z.natAbs) n cap1 ((k:Int)/4) hlr (rep_lim _) Hn.out (by omega) (by omega);rw[e1,Int.toNat_natCast]at hdig;obtain⟨x,hx⟩: ∃x,x=wd (rep z.natAbs) d:=⟨_,rfl⟩;rw[←hx]at b_x hdig HB;have HDg:=hid hdig;clear hdig hx;have ep:(2:Int)^(8*r)=((256^r:Nat):Int):=by rw[←pow8,Int.natCast_pow];rfl
   obtain⟨pw,hpw⟩: ∃pw,pw=256^r:=⟨_,rfl⟩;have hp0:0<pw:=by rw[hpw];exact Nat.pow_pos (by decide)
   rw[←hpw]at ep HB;clear hpw;have ig:=row_index (P:=Tryz.prog) Tryz.underlying72 size8 g L cap .i64 ((L:Int)-1-k) (L-1-k) (by omega) (by omega);have hcell:=hr'.cell (i:=L-1-k) (by rw[HL'.out];omega);have hfk:=hr'.free (L-1-k);have q0:(0:Int)≤(x:Int)/(pw:Int):=by rw[←Int.natCast_ediv];exact Int.natCast_nonneg _
   go_wp2_with(go_at_call 237;(try simp only[e1]);refine HDg.out.mono ?_;rintro e w' ⟨rfl,rfl⟩);go_roundw
   case rel=>exact⟨k+1,bs'.set (L-1-k) (x/pw%256),by omega,by go_num,by rw[List.length_set,HL'.out],hr'.store _ _ _ (by rw[Int.natCast_emod,Int.natCast_ediv];rfl),fun j hj=>by
    rw[wd_set (by rw[HL'.out];omega)];by_cases hjk:j=k
    ·rw[hjk,if_pos rfl,HB.out]
    ·rw[if_neg (by omega)];exact HD.out j (by omega),ho.setCell (by simp) _⟩
   case measure=>simp[intOf];omega
  ·obtain rfl:k=L:=by omega
   go_wp2;go_ret;exact⟨rfl,ho,bs',hr',HL'.out,HD.out⟩
end Go.Proofs.YtbffpkmfhkphdaaGreatDoor
namespace Go.Proofs.YtbffpkmfhkphdaaGreatDoor
open Go Lib Go.RowKit Limb
theorem wd_set4{bs:List Nat}{L k x:Nat}(hl:bs.length=L)(hk:4*(k+1)≤L){l:List Nat}(hx:x=wd l k)(h: ∀j,j<4*k→wd bs (L-1-j)=byt l j): ∀j,j<4*(k+1)→wd ((((bs.set (L-4*k-1) (x%256)).set (L-4*k-2) (x/256%256)).set (L-4*k-3) (x/65536%256)).set (L-4*k-4) (x/16777216%256)) (L-1-j)=byt l j:=by
 intro j hj;rw[wd_set (by simp only[List.length_set];omega),wd_set (by simp only[List.length_set];omega),wd_set (by simp only[List.length_set];omega),wd_set (by omega)]
 have e: ∀t,t<4→byt l (4*k+t)=x/256^t%256:=by
  intro t ht;unfold byt;rw[show(4*k+t)/4=k from by omega,show(4*k+t)%4=t from by omega,hx]
 have e0:=e 0 (by omega);have e1:=e 1 (by omega);have e2:=e 2 (by omega);have e3:=e 3 (by omega);simp only[show 256^0=1 from rfl,show 256^1=256 from rfl,show 256^2=65536 from rfl,show 256^3=16777216 from rfl,Nat.div_one]at e0 e1 e2 e3;by_cases c3:j=4*k+3
 ·rw[if_pos (by omega),c3,e3]
 ·rw[if_neg (by omega)];by_cases c2:j=4*k+2
  ·rw[if_pos (by omega),c2,e2]
  ·rw[if_neg (by omega)];by_cases c1:j=4*k+1
   ·rw[if_pos (by omega),c1,e1]
   ·rw[if_neg (by omega)];by_cases c0:j=4*k
    ·rw[if_pos (by omega),c0];exact e0.symm
    ·rw[if_neg (by omega)];exact h j (by omega)
theorem bval_congr{f g:Nat→Nat}(k:Nat)(h: ∀i,i<k→f i=g i):bval f k=bval g k:=by
 induction k with
 |zero=>rfl
 |succ k ih=>rw[bval,bval,ih (fun i hi=>h i (by omega)),h k (by omega)]
theorem large_wide(w:World)(neg:Bool)(a:Option Addr)(l:List Nat)(n cap:Nat)(hlay:Lay .u32 w a l)(hlim:Lim l)(hn:n=l.length)(hm:n≤68719476736):Calls Tryz.prog 60 #[.agg #[.bool neg,.slice a n cap]] w fun e w'=> ∃p,e= .returned (.pointer (some ⟨p,0,none⟩))∧w.heap.size≤p∧IntAt w' p (signed neg (val l))∧Below w.heap.size w w':=by
 obtain⟨b1,off1,hix,hcx,_⟩:=hlay.use 22 60 Tryz.underlying22 size32 cap;rw[←hn]at hix hcx;have Hn:=hid hn;clear hn;have HX:=hid hix;clear hix;have HCX:=hid hcx;clear hcx;obtain⟨L,hL1,hL2⟩: ∃L,L≤4*n∧4*n≤L:=⟨4*n,by omega,by omega⟩;have hbox:Row (w.alloc (.cells #[.bool neg,.slice a n cap] 24)) w.heap.size 24 [.bool neg,.slice a n cap]:=by unfold Row;exact heap_alloc_new _ _
 go_enter Tryz.func60,Tryz.ntmps60;go_wp2_with(at_make;refine wpList_make_row rfl _ _ _ rfl 5 (.int .u8 0) 1 Tryz.underlying72 info8 rfl _ _ _ _ L L rfl rfl (by omega) (by omega) (by omega) (by omega) (by omega) ?_;intro w1 g hg1 hg2 hrow hbel;have hbox1:=hbox.below hbel (by rw[World.size_alloc];omega);have c1:w1.cell? ⟨w.heap.size,1,none⟩=some (.slice a n cap):=hbox1.cell_at 1);rw[World.size_alloc]at hg1 hbel;have hb0:=hbel.mono (show w.heap.size≤w.heap.size+1 by omega);have hB1:Below w.heap.size w w1:=((Below.refl _ _).alloc (Nat.le_refl _) _).trans hb0;clear c1 hbox;go_loopw[16] (fun i wr=> ∃(k:Nat) (bs:List Nat),k≤n∧i= .int .i64 k∧bs.length=L∧(∀i,wd bs i<256)∧(∀j,j<4*k→wd bs (L-1-j)=byt l j)∧Row wr g 5 (nums .u8 bs)∧Below (w.heap.size+1) w1 wr) (fun i _=>n-(intOf i).toNat);case atStart=>exact⟨0,List.replicate L 0,by omega,rfl,by simp,fun i=>by rw[wd_replicate];decide,fun j hj=>absurd hj (by omega),by rw[nums_replicate];exact hrow,Below.refl _ _⟩
 case round=>
  obtain⟨k,bs,hk,rfl,hbl,hlt8,hd,hr,hbw⟩:=hrel;have hBw:Below w.heap.size w wr:=hB1.trans (hbw.mono (by omega));have hboxr:=hbox1.below hbw (by omega);have HL:=hid hbl;clear hbl;have H8:=hid hlt8;clear hlt8;have HD:=hid hd;clear hd;have h1:=hlim.wd k;by_cases hlt:k<n
  ·have ix:=HX.out wr .i64 k (by omega) (by omega);rw[Int.toNat_natCast]at ix;have cx:=HCX.out wr hBw k hlt;obtain⟨x,hx⟩: ∃x,x=wd l k:=⟨_,rfl⟩;rw[←hx]at cx h1;have HX':=hid hx;clear hx;have i1:=row_index (P:=Tryz.prog) Tryz.underlying72 size8 g L L .i64 ((L:Int)-4*k-1) (L-4*k-1) (by omega) (by omega);have i2:=row_index (P:=Tryz.prog) Tryz.underlying72 size8 g L L .i64 ((L:Int)-4*k-2) (L-4*k-2) (by omega) (by omega);have i3:=row_index (P:=Tryz.prog) Tryz.underlying72 size8 g L L .i64 ((L:Int)-4*k-3) (L-4*k-3) (by omega) (by omega);have i4:=row_index (P:=Tryz.prog) Tryz.underlying72 size8 g L L .i64 ((L:Int)-4*k-4) (L-4*k-4) (by omega) (by omega);have r1:=hr.store (L-4*k-1) ((x:Int)%256) (x%256) (by omega);have r2:=r1.store (L-4*k-2) ((x:Int)/256%256) (x/256%256) (by omega);have r3:=r2.store (L-4*k-3) ((x:Int)/65536%256) (x/65536%256) (by omega);have r4:=r3.store (L-4*k-4) ((x:Int)/16777216) (x/16777216%256) (by omega);have k1:=hr.cell (i:=L-4*k-1) (by rw[HL.out];omega);have k2:=r1.cell (i:=L-4*k-2) (by rw[List.length_set,HL.out];omega);have k3:=r2.cell (i:=L-4*k-3) (by rw[List.length_set,List.length_set,HL.out];omega);have k4:=r3.cell (i:=L-4*k-4) (by rw[List.length_set,List.length_set,List.length_set,HL.out];omega);have f1:=hr.free (L-4*k-1);have f2:=r1.free (L-4*k-2);have f3:=r2.free (L-4*k-3);have f4:=r3.free (L-4*k-4);clear r1 r2 r3;go_wp2;go_roundw
   case rel=>
    refine⟨k+1,(((bs.set (L-4*k-1) (x%256)).set (L-4*k-2) (x/256%256)).set (L-4*k-3) (x/65536%256)).set (L-4*k-4) (x/16777216%256),by omega,by go_num,by simp only[List.length_set];exact HL.out,?_,wd_set4 HL.out (by omega) HX'.out HD.out,r4,below_store (below_store (below_store (below_store hbw hg1 _) hg1 _) hg1 _) hg1 _⟩;intro i;rw[wd_set (by simp only[List.length_set];rw[HL.out];omega),wd_set (by simp only[List.length_set];rw[HL.out];omega),wd_set (by simp only[List.length_set];rw[HL.out];omega),wd_set (by rw[HL.out];omega)];split
    ·omega
    ·split
     ·omega
     ·split
      ·omega
      ·split
       ·omega
       ·exact H8.out i
   case measure=>simp[intOf];omega
  ·obtain rfl:k=n:=by omega
   have hfin:Hid (bval (fun i=>wd bs (L-1-i)) L=val l):=by
    unfold Hid;rw[bval_congr L (fun i hi=>HD.out i (by omega)),show L=4*k from by omega,bval_words hlim,List.take_of_length_le (by rw[Hn.out];exact Nat.le_refl _)]
   have c0:wr.cell? ⟨w.heap.size,0,none⟩=some (.bool neg):=hboxr.cell_at 0;have hlb:=hr.lay;have hnew:=IntAt.new wr;clear h1;go_wp2_with fail;refine(int_setbytes _ wr.heap.size 0 (some ⟨g,0,none⟩) bs L L hnew (hlb.below ((Below.refl _ _).alloc (Nat.le_refl _) _)) HL.out.symm H8.out (by omega)).mono ?_;rw[hfin.out];rintro e w2 ⟨rfl,h2,h3⟩;have hO:Only [] wr w2:=((Only.refl [] wr).alloc _).trans h3 (fun q hq=>by rw[List.mem_singleton]at hq;exact Or.inr (by omega));have hB2:Below w.heap.size w w2:=hBw.trans (hO.below.mono (hBw.size));have c0':w2.cell? ⟨w.heap.size,0,none⟩=some (.bool neg):=(hboxr.only hO (by simp)).cell_at 0;have hsz:w.heap.size≤wr.heap.size:=hBw.size;cases neg with
   |false=>
    go_wp2;go_ret;exact⟨_,rfl,hsz,h2,hB2⟩
   |true=>
    go_wp2_with fail;refine(int_neg _ wr.heap.size wr.heap.size _ _ h2 h2 ?_).mono ?_
    ·rw[Int.natAbs_natCast];exact Nat.le_trans (rep_val_le hlim) (by rw[←Hn.out];omega)
    rintro e w3 ⟨rfl,h4,h5⟩;go_wp2;go_ret;exact⟨_,rfl,hsz,h4,hB2.trans (h5.belowB hB2.size (fun p hp=>by rw[List.mem_singleton]at hp;omega))⟩
end Go.Proofs.YtbffpkmfhkphdaaGreatDoor
namespace Go.Proofs.YtbffpkmfhkphdaaGreatDoor
open Go Go.RowKit Limb
theorem big_times'(w:World)(a b:Option Addr)(x y n m:Nat)(ca cb:Nat)(ha:Lay .u32 w a (rep x))(hb:Lay .u32 w b (rep y))(hn:n=(rep x).length)(hm:m=(rep y).length)(lx:n≤1099511627776)(ly:m≤1099511627776):Calls Tryz.prog 163 #[.slice a n ca,.slice b m cb] w fun e w'=> ∃a c s,e= .returned (.slice a s c)∧s=(rep (x*y)).length∧s≤c∧Lay .u32 w' a (rep (x*y))∧Below w.heap.size w w':=by
 have:=big_times w a b (rep x) (rep y) n m ca cb ha hb (rep_lim _) (rep_lim _) hn hm lx ly;rw[val_rep,val_rep]at this;exact this.mono fun e w' ⟨a,c,h1,h2,_,h4,h5⟩=>⟨a,c,_,h1,rfl,h2,h4,h5⟩
end Go.Proofs.YtbffpkmfhkphdaaGreatDoor
namespace Go.Proofs.YtbffpkmfhkphdaaGreatDoor
open Go Lib Go.RowKit Limb
theorem big_quotient'(w:World)(a b:Option Addr)(x y n m:Nat)(ca cb:Nat)(ha:Lay .u32 w a (rep x))(hb:Lay .u32 w b (rep y))(hn:n=(rep x).length)(hm:m=(rep y).length)(lx:n≤274877906944)(ly:m≤274877906944)(hca:n≤ca)(hy:0<y):Calls Tryz.prog 162 #[.slice a n ca,.slice b m cb] w fun e w'=> ∃a ca s b cb t,e= .returned (.tuple #[.slice a s ca,.slice b t cb])∧s=(rep (x/y)).length∧t=(rep (x%y)).length∧s≤ca∧t≤cb∧Lay .u32 w' a (rep (x/y))∧Lay .u32 w' b (rep (x%y))∧Below w.heap.size w w':=by
 have:=big_quotient w a b (rep x) (rep y) n m ca cb ha hb (rep_lim _) (rep_lim _) (rep_norm _) (rep_norm _) hn hm lx ly hca (by rw[val_rep];exact hy);rw[val_rep,val_rep]at this;exact this.mono fun e w' ⟨a,ca,b,cb,h1,h2,h3,h4,h5,h6⟩=>⟨a,ca,_,b,cb,_,h1,rfl,rfl,h2,h3,h4,h5,h6⟩
def IntRes2(w w':World)(e:Ending)(p r:Nat)(y z:Int):Prop:=
 e= .returned (.tuple #[.pointer (some ⟨p,0,none⟩),.pointer (some ⟨r,0,none⟩)])∧IntAt w' p y∧IntAt w' r z∧Only [p,r] w w'
theorem tdiv_abs(x y:Int):(x.tdiv y).natAbs=x.natAbs/y.natAbs:=Int.natAbs_tdiv x y
theorem tmod_abs(x y:Int):(x.tmod y).natAbs=x.natAbs%y.natAbs:=Int.natAbs_tmod x y
theorem tdiv_sign{x y:Int}:((!(decide (x<0)==decide (y<0)))=true→x.tdiv y≤0)∧((!(decide (x<0)==decide (y<0)))=false→0≤x.tdiv y):=by
 constructor<;>intro h<;>by_cases hx:x<0<;>by_cases hy:y<0<;>simp[hx,hy]at h
 ·have e:x.tdiv y= -((-x).tdiv y):=(by rw[Int.neg_tdiv,Int.neg_neg]);have:=Int.tdiv_nonneg (a:= -x) (b:=y) (by omega) (by omega);omega
 ·have e:x.tdiv y= -(x.tdiv (-y)):=(by rw[Int.tdiv_neg,Int.neg_neg]);have:=Int.tdiv_nonneg (a:=x) (b:= -y) (by omega) (by omega);omega
 ·have e:x.tdiv y=(-x).tdiv (-y):=(by rw[Int.neg_tdiv,Int.tdiv_neg,Int.neg_neg]);rw[e];exact Int.tdiv_nonneg (by omega) (by omega)
 ·exact Int.tdiv_nonneg (by omega) (by omega)
theorem tmod_sign{x y:Int}:(decide (x<0)=true→x.tmod y≤0)∧(decide (x<0)=false→0≤x.tmod y):=by
 constructor<;>intro h<;>simp at h
 ·have e:x.tmod y= -((-x).tmod y):=(by rw[Int.neg_tmod,Int.neg_neg]);have:=Int.tmod_nonneg (a:= -x) y (by omega);omega
 ·exact Int.tmod_nonneg y h
theorem int_quorem(w:World)(p q r s:Nat)(v u x y:Int)(hp:IntAt w p v)(hq:IntAt w q x)(hr:IntAt w r y)(hs:IntAt w s u)(hps:p≠s)(hy:y≠0)(lx:(rep x.natAbs).length≤68719476736)(ly:(rep y.natAbs).length≤68719476736):Calls Tryz.prog 166 #[.pointer (some ⟨p,0,none⟩),.pointer (some ⟨q,0,none⟩),.pointer (some ⟨r,0,none⟩),.pointer (some ⟨s,0,none⟩)] w fun e w'=>IntRes2 w w' e p s (x.tdiv y) (x.tmod y):=by
 obtain⟨b1,a1,n1,cap1,Hb1,Hn1,hc1,hl1,hcells1⟩:=hq.use;obtain⟨b2,a2,n2,cap2,Hb2,Hn2,hc2,hl2,hcells2⟩:=hr.use;rw[←Hn1.out]at lx;rw[←Hn2.out]at ly;obtain⟨c0,c1⟩:=hcells1 w (Only.refl _ _);obtain⟨d0,d1⟩:=hcells2 w (Only.refl _ _);clear hcells1 hcells2;have hsq:= @tdiv_sign x y;have hsr:= @tmod_sign x y;rw[←Hb1.out,←Hb2.out]at hsq;rw[←Hb1.out]at hsr;have HQ:=hid hsq;clear hsq;have HR:=hid hsr;clear hsr;have AQ:=hid (tdiv_abs x y);have AR:=hid (tmod_abs x y);have hy0:0<y.natAbs:=by omega
 go_enter Tryz.func166,Tryz.ntmps166;go_wp2;go_quiet (fail);go_wp2;obtain⟨W,hW⟩: ∃W,W=w.drewN nq:=⟨_,rfl⟩;have k1:Lay .u32 W a1 (rep x.natAbs):=by rw[hW];exact hl1
 have k2:Lay .u32 W a2 (rep y.natAbs):=by rw[hW];exact hl2
 have kp:IntAt W p v:=by rw[hW];exact hp
 have ks:IntAt W s u:=by rw[hW];exact hs
 have e1:W.cell? ⟨q,1,none⟩=some (.slice a1 n1 cap1):=by rw[hW];exact c1
 have f1:W.cell? ⟨r,1,none⟩=some (.slice a2 n2 cap2):=by rw[hW];exact d1
 have hoW:Only [p,s] w W:=by rw[hW];exact(Only.refl _ _).drewN _
 rw[←hW];clear hW c0 c1 d0 d1;go_upto_region 2 with fail
 go_cut [12,13] (fun q r w'=> ∃a ca s b cb t,q= .slice a s ca∧r= .slice b t cb∧Hid (s=(rep (x.natAbs/y.natAbs)).length)∧Hid (t=(rep (x.natAbs%y.natAbs)).length)∧s≤ca∧t≤cb∧Lay .u32 w' a (rep (x.natAbs/y.natAbs))∧Lay .u32 w' b (rep (x.natAbs%y.natAbs))∧Below W.heap.size W w')
 case first=>
  go_wp2_with fail;go_region_with (go_at_call 162;refine(big_quotient' _ a1 a2 x.natAbs y.natAbs n1 n2 cap1 cap2 ?_ ?_ Hn1.out Hn2.out (by omega) (by omega) hc1 hy0).mono ?_;exact k1.drew;exact k2.drew;rintro e w1 ⟨a3,c3,s3,b3,cb3,t3,rfl,h1,h2,h3,h4,h5,h6,h7⟩;have H1:=hid h1;clear h1;have H2:=hid h2;clear h2);all_goals go_wp2
  all_goals go_meet
  all_goals exact⟨_,_,_,_,_,_,rfl,rfl,H1,H2,h3,h4,h5,h6,below_of_drew h7⟩
 case rest=>
  obtain⟨a3,c3,s3,b3,cb3,t3,rfl,rfl,H1,H2,h3,h4,h5,h6,h7⟩:=hcut;go_wp2_with fail;refine(big_made _ p v (x.tdiv y) _ _ _ _ (kp.below h7) (by rw[AQ.out];exact h5) (by rw[AQ.out];exact H1.out) h3 HQ.out).mono ?_;rintro e w2 ⟨rfl,h8,h9⟩;have ib:=IntBlocks.one (kp.below h7);go_wp2_with fail;refine(big_made _ s u (x.tmod y) _ _ _ _ ((ks.below h7).only h9 (by simp;exact fun e=>hps e.symm) ib) (by rw[AR.out];exact h6.only h9 (h6.notInt ib)) (by rw[AR.out];exact H2.out) h4 HR.out).mono ?_;rintro e w3 ⟨rfl,h10,h11⟩;go_wp2;go_ret2;refine⟨rfl,h8.only h11 (by simp;exact hps) (IntBlocks.one ((ks.below h7).only h9 (by simp;exact fun e=>hps e.symm) ib)),h10,?_⟩;exact hoW.trans (((Only.of_below (ps:=[p,s]) h7).trans h9 (by simp)).trans h11 (by simp)) (by simp)
end Go.Proofs.YtbffpkmfhkphdaaGreatDoor
namespace Go.Proofs.YtbffpkmfhkphdaaGreatDoor
open Go Lib Go.RowKit Limb
def slen:Value→Nat
 | .slice _ n _=>n
 |_=>0
theorem sign_at(W:World): ∀d:Nat,d<36→(Instr.index 9 (.string {data:= #[48,49,50,51,52,53,54,55,56,57,97,98,99,100,101,102,103,104,105,106,107,108,109,110,111,112,113,114,115,116,117,118,119,120,121,122]}) (.int .u32 (d:Int))).run Tryz.prog W= .ok (.int .u8 ((sgn d:Nat):Int)) W
 |0,_|1,_|2,_|3,_|4,_|5,_|6,_|7,_|8,_|9,_|10,_|11,_|12,_|13,_|14,_|15,_|16,_|17,_|18,_|19,_|20,_|21,_|22,_|23,_|24,_|25,_|26,_|27,_|28,_|29,_|30,_|31,_|32,_|33,_|34,_|35,_=>by kernel_rfl
 |n+36,h=>absurd h (by omega)
theorem row_one(w:World)(t:TypeId)(K:IntKind)(v:Int)(d:Nat)(hv:v=d):Lay K (w.alloc (.cells #[.int K v] t)) (some ⟨w.heap.size,0,none⟩) [d]:=by
 subst hv;have h:Row (w.alloc (.cells #[.int K (d:Int)] t)) w.heap.size t (nums K [d]):=by unfold Row;exact heap_alloc_new _ _
 exact h.lay
theorem pow_pos_k{b k u:Nat}(hb:2≤b)(hu:u=b^k):0<u∧k<u:=by
 subst hu;have:2^k≤b^k:=Nat.pow_le_pow_left hb k;have h2:k<2^k:=Nat.lt_two_pow_self;omega
theorem big_short'(w:World)(a:Option Addr)(y n ca d:Nat)(ha:Lay .u32 w a (rep y))(hn:n=(rep y).length)(ln:n≤1099511627776)(hd0:0<d)(hd:d<4294967296):Calls Tryz.prog 241 #[.slice a n ca,.int .u32 d] w fun e w'=> ∃(g:Nat) (cs:List Value) (c' m q r:Nat),e= .returned (.tuple #[.slice (some ⟨g,0,none⟩) m c',.int .u32 r])∧Hid (m=(rep q).length)∧Hid (q=y/d)∧Hid (r=y%d)∧r<d∧m≤n∧Lay .u32 w' (some ⟨g,0,none⟩) (rep q)∧Row w' g 60 cs∧Below w.heap.size w w':=by
 refine(big_short_row w a (rep y) n ca d ha (rep_lim _) hn ln hd0 hd).mono ?_;rintro e w' ⟨a',c',rfl,_,_,h3,h4,g,cs,rfl,h5⟩;rw[val_rep]at*
 exact⟨g,cs,c',_,y/d,y%d,rfl,hid rfl,hid rfl,hid rfl,Nat.mod_lt _ hd0,by rw[hn];exact rep_mono (Nat.div_le_self _ _),h3,h5,h4⟩
theorem owns_below{w w':World}{B:Nat}{e:TypeId}{v:Value}{n:Nat}{xs:List Value}(h:w.ownsRow B e 1 v n xs)(hb:Below w.heap.size w w'):w'.ownsRow B e 1 v n xs:=by
 obtain⟨h1,h2⟩:=h;refine⟨h1,?_⟩;rcases h2 with h2|⟨g,cap,cur,hv,hg,hh,hr⟩
 ·exact .inl h2
 ·exact .inr ⟨g,cap,cur,hv,hg,by rw[hb.block g (Array.getElem?_eq_some_iff.1 hh).1];exact hh,hr⟩
theorem owns_apart{w:World}{B:Nat}{e t:TypeId}{v:Value}{n:Nat}{xs cs:List Value}{g:Nat}(h:w.ownsRow B e 1 v n xs)(hr:Row w g t cs)(hne:e≠t):some g≠v.ownBlock:=by
 intro hg;obtain⟨_,h2⟩:=h;rcases h2 with⟨hv,_⟩|⟨g',cap,cur,hv,_,hh,_⟩
 ·rw[hv]at hg;cases hg
 ·rw[hv]at hg;simp only[Value.ownBlock,Option.some.injEq]at hg;subst hg;unfold Row at hr;rw[hr]at hh;simp only[Option.some.injEq,Obj.cells.injEq]at hh;exact hne hh.2.1.symm
theorem owns_len{w:World}{B:Nat}{e:TypeId}{v:Value}{n:Nat}{xs:List Value}(h:w.ownsRow B e 1 v n xs):slen v=n:=by
 obtain⟨_,⟨hv,hn⟩|⟨g,cap,cur,hv,_⟩⟩:=h
 ·rw[hv,hn];rfl
 ·rw[hv];rfl
theorem Lay.kept{K:IntKind}{w w':World}{g:Nat}{l:List Nat}(h:Lay K w (some ⟨g,0,none⟩) l)(hs:w.heap.size≤w'.heap.size)(hb:w'.heap[g]? =w.heap[g]?):Lay K w' (some ⟨g,0,none⟩) l:=by
 obtain⟨b,off,h1,h2⟩:=h;refine⟨b,off,fun hl=>⟨(h1 hl).1,Nat.lt_of_lt_of_le (h1 hl).2 hs⟩,fun i hi=>?_⟩;have h3:=(h1 (by omega)).1;simp only[Option.some.injEq,Addr.mk.injEq,and_true]at h3;obtain⟨rfl,rfl⟩:=h3;rw[←h2 i hi];exact World.cell?_of_block hb
theorem Row.cell_app{w:World}{g:Nat}{e:TypeId}{k:IntKind}{zs:List Nat}{rest:List Value}(h:Row w g e (nums k zs++rest)){i:Nat}(hi:i<zs.length):w.cell? ⟨g,i,none⟩=some (.int k (wd zs i:Nat)):=by
 rw[h.cell_at,List.getElem?_append_left (by rw[nums_length];exact hi),nums_get hi]
theorem Row.store_app{w:World}{g:Nat}{e:TypeId}{k:IntKind}{zs:List Nat}{rest:List Value}(h:Row w g e (nums k zs++rest)){i:Nat}(hi:i<zs.length)(v:Int)(d:Nat)(hv:v=d):Row (w.setCell ⟨g,i,none⟩ (.int k v)) g e (nums k (zs.set i d)++rest):=by
 have h2:=h.store_any i (.int k v);rw[List.set_append_left _ _ (by rw[nums_length];exact hi),hv,←nums_set]at h2;rw[hv];exact h2
theorem conv_row{P:Program}{w:World}{g:Nat}{e:TypeId}{l:List Nat}{rest:List Value}(h:Row w g e (nums .u8 l++rest))(src:TypeId)(hs:P.underlying src=some (.slice e))(he:P.underlying e=some (.int .u8))(m cap:Nat)(hm:m=l.length): ∀dst,P.underlying dst=some .string→(convert src dst (.slice (some ⟨g,0,none⟩) m cap)).run P w= .ok (.string (strOfNums (l.map fun n:Nat=>(n:Int)))) w:=by
 refine run_convert_bytes_arg w src e hs he g 0 m cap _ (by simp[hm]) (fun i hi=>?_);rw[Nat.zero_add,h.cell_app (by omega),wd_lt (by omega)];simp[List.getD_eq_getElem?_getD,show i<l.length by omega]
theorem strOf_nats(l:List Nat):(strOfNums (l.map fun n:Nat=>(n:Int))).data.toList=l.map UInt8.ofNat:=by
 rw[strOfNums_data,List.map_map];rfl
theorem wpList_append_row{P:Program}{w:World}{ops:Array Oper}{rest:List Oper}{o:Oper}{a:Act}{Q:Exit→Act→World→Prop}(hgd:o.guard=none)(s x:Operand)(t:TypeId)(ho:o.op= .call {callee:= .builtin .append,args:= #[s,x],argTypes:= #[t,t]})(K:IntKind)(B:Nat)(e:TypeId)(z:Value)(bytes:Nat)(ht:P.underlying t=some (.slice e))(h2:(P.info? e).map (fun i=>(i.zero,i.size,i.bytes))=some (some z,1,bytes))(hz:z.cells.size=1)(v:Value)(n:Nat)(l:List Nat)(hs:a.eval s=v)(hown:w.ownsRow B e 1 v n (nums K l))(b:Nat)(c:Nat)(hx:a.eval x= .slice (some ⟨b,0,none⟩) 1 c)(d:Nat)(D:Int)(hc:w.cell? ⟨b,0,none⟩=some (.int K D))(hD:D=(d:Nat))(h63:n+1≤9223372036854775807)(hbytes:(n+1)*bytes≤140737488355328)(hB:B≤w.heap.size)(h: ∀v' w',w'.ownsRow B e 1 v' (n+1) (nums K (l++[d]))→Below B w w'→w.heap.size≤w'.heap.size→(∀(g:Nat) (t:TypeId) (cs:List Value),e≠t→Row w g t cs→Row w' g t cs)→wpList P ops Q rest (a.put o.dst v') w'):wpList P ops Q (o :: rest) a w:=by
 obtain⟨i,hi,hz0,hsz,hbt⟩:=info_parts h2;subst hD;refine wpList_append_own w hgd s x t ho B e i z 1 bytes ht hi hz0 hsz hbt hz (by decide) v n _ hs hown ⟨b,0,none⟩ 1 c [.int K (d:Int)] hx rfl ?_ ?_ h63 hbytes hB ?_
 ·intro j u hj
  match j,hj with
  |0,hj=>simp at hj;subst hj;exact hc
  |j+1,hj=>simp at hj
 ·intro u hu;rw[List.mem_singleton]at hu;subst hu;rfl
 ·intro v' w' h1 h2 _;refine h v' w' ?_ (below_grown hown h2 hB) h2.size (fun g t cs hne hr=>?_)
  ·rw[nums_append];exact h1
  ·have:=h2.block g hr.lt (owns_apart hown hr hne);unfold Row at*;rw[this];exact hr
theorem text_step{b N q r m:Nat}{l:List Nat}(hb:2≤b)(h36:b≤36)(h:Part b N l (q*b^(m+1)+r))(hr:r<b^(m+1))(h0:0<q∨0<r):Part b N (l++[sgn (r%b)]) (q*b^m+r/b)∧r/b<b^m∧r%b<36:=by
 obtain⟨e1,e2⟩:=part_digit (q:=q) (r:=r) (m:=m) hb;have h3:=h.step hb ((part_pos hb).2 h0);rw[e1,e2]at h3;exact⟨h3,part_rest hb hr,by have:=Nat.mod_lt r (show 0<b by omega);omega⟩
theorem big_text(w:World)(a:Option Addr)(n c N b:Nat)(ha:Lay .u32 w a (rep N))(hn:n=(rep N).length)(hN:N≠0)(h2:2≤b)(h36:b≤36)(lx:n≤68719476736):Calls Tryz.prog 174 #[.slice a n c,.int .i64 b] w fun e w'=>(∃s,e= .returned (.string s)∧s.data.toList=(txt b N).map UInt8.ofNat)∧Below w.heap.size w w':=by
 have p1:0<n:=by have:=rep_length_zero (n:=N);omega
 have q1:((n:Int)==0)=false:=by rw[beq_eq_false_iff_ne];omega
 obtain⟨L,hL⟩: ∃L,L=(digs b N).length:=⟨_,rfl⟩
 have hLL:L≤2199023255552:=by
  rw[hL];refine Nat.le_trans (digs_length h2 N (32*n) ?_) (by omega);have:=rep_len_hi N;rw[←hn,W_two]at this;exact this
 have HL:=hid hL;clear hL;have Hn:=hid hn;clear hn;have HN:=hid hN;clear hN;obtain⟨M,hM⟩: ∃M:Nat,4294967296≤M:=⟨_,Nat.le_refl _⟩;go_enter Tryz.func174,Tryz.ntmps174;go_wp2;go_loop[5,6] (fun u m=> ∃k uu:Nat,1≤k∧Hid (uu=b^k)∧uu<4294967296∧u= .int .u32 uu∧m= .int .i64 k) (fun u _=>M-(intOf u).toNat);case atStart=>exact⟨1,b,by omega,hid (by rw[Nat.pow_one]),by omega,rfl,rfl⟩
 case round=>
  obtain⟨k,u,hk,Hu,hu,rfl,rfl⟩:=hrel;obtain⟨u0,ku⟩:=pow_pos_k h2 Hu.out;obtain⟨t,ht⟩: ∃t,t=u*b:=⟨_,rfl⟩;have et:(u:Int)*(b:Int)=(t:Int):=by rw[ht,Int.natCast_mul]
  have t1:u<t:=(by rw[ht];have:=Nat.mul_le_mul_left u h2;omega);have t2:t≤154618822656:=by rw[ht];exact Nat.le_trans (Nat.mul_le_mul (Nat.le_of_lt hu) h36) (by decide)
  have HT:Hid (t=b^(k+1)):=hid (by rw[ht,Hu.out,Nat.pow_succ]);clear ht;by_cases hlt:t<4294967296
  ·have d1:decide ((t:Int)<4294967296)=true:=(by rw[decide_eq_true_eq];omega);go_wp2;go_round;case rel=>exact⟨k+1,t,by omega,HT,hlt,by go_num,by go_num⟩
   case measure=>simp[intOf];omega
  ·have kl:k≤4294967296:=(by omega);have d1:decide ((t:Int)<4294967296)=false:=by rw[decide_eq_false_iff_not];omega
   clear hlt HT ku;go_wp2;go_loopw[0,7] (fun x v wr=> ∃(a:Option Addr) (n c y m:Nat) (l:List Nat),x= .slice a n c∧Hid (n=(rep y).length)∧n≤68719476736∧Lay .u32 wr a (rep y)∧wr.ownsRow w.heap.size 5 1 v m (nums .u8 l)∧Hid (slen v=m)∧Hid (m=l.length)∧Hid (Part b N l y)∧Below w.heap.size w wr) (fun _ v _=>L-slen v);case atStart=>exact⟨a,n,c,N,0,[],rfl,Hn,lx,ha,World.ownsRow_nil _ _ _ _,hid rfl,hid rfl,hid (Part.start _ _),Below.refl _ _⟩
   case round=>
    clear ha Hn p1 q1 lx;obtain⟨a,n,c,y,m,l,rfl,Hn,lx,ha,hown,Hs,Hm,HP,hbl⟩:=hrel;by_cases hy:y=0
    ·have n0:n=0:=(by rw[Hn.out,hy];rfl);have d1:decide (0<n)=false:=by rw[decide_eq_false_iff_not];omega
     have HPe:Hid (Part b N l 0):=hid (by rw[←hy];exact HP.out);have ml:m=L:=by rw[Hm.out,HL.out,HPe.out.done];simp
     have m0:0<m:=by
      rw[ml,HL.out,digs_pos h2 (by have:=HN.out;omega)];simp
     obtain⟨av,capv,hv,hcv,hmv,hlv,hrow⟩:=lay_of_owns hown;obtain⟨g,csv,rfl,hgv,hrv,hcl,htk⟩:=hrow m0;clear hlv hrow Hs HP hown HL Hm;have hmv':=hid hmv;clear hmv;have hrv':Row wr g 5 (nums .u8 (half l 0)++csv.drop m):=by rw[half_zero,←htk,List.take_append_drop];exact hrv
     obtain⟨rest,hrest⟩: ∃rest,rest=csv.drop m:=⟨_,rfl⟩;rw[←hrest]at hrv';clear hrest htk hcl hrv hy;subst hv;have Ml:=hid (show m≤2199023255552 by omega);clear ml;have hml:=Ml.out;clear n0;go_wp2_with fail;go_loopw[11,12] (fun i j wr=> ∃ii jj:Nat,i= .int .i64 ii∧j= .int .i64 jj∧Hid (ii+jj+1=m)∧Row wr g 5 (nums .u8 (half l ii)++rest)∧Below w.heap.size w wr) (fun _ j _=>(intOf j).toNat);case atStart=>exact⟨0,m-1,rfl,by go_num,hid (by omega),hrv',hbl⟩
     case round=>
      clear hrv' hbl;obtain⟨i,j,rfl,rfl,Hij,hr,hbl⟩:=hrel;have hl:Hid ((half l i).length=m):=hid (by rw[half_length];exact hmv'.out.symm);by_cases hlt:i<j
      ·have ci:=hr.cell_app (i:=i) (by have:=hl.out;have:=Hij.out;omega);have cj:=hr.cell_app (i:=j) (by have:=hl.out;have:=Hij.out;omega);have fi:=hr.free i;have fj:=hr.free j;have ixi:=row_index (P:=Tryz.prog) Tryz.underlying72 size8 g m capv .i64 (i:Int) i rfl (by have:=Hij.out;omega);have ixj:=row_index (P:=Tryz.prog) Tryz.underlying72 size8 g m capv .i64 (j:Int) j rfl (by have:=Hij.out;omega);have nij:i≠j:=by omega
       have nji:j≠i:=(by omega);have hrs:=(hr.store_app (i:=i) (by have:=hl.out;have:=Hij.out;omega) _ _ (rfl:((wd (half l i) j:Nat):Int)=_)).store_app (i:=j) (by rw[List.length_set];have:=hl.out;have:=Hij.out;omega) _ _ (rfl:((wd (half l i) i:Nat):Int)=_);rw[half_step l i j hlt (by have:=Hij.out;have:=hmv'.out;omega)]at hrs;have jm:j≤m:=by have:=Hij.out;omega
       have d1:decide (i<j)=true:=(by rw[decide_eq_true_eq];exact hlt);go_wp2;go_region;go_wp2;go_roundw;case rel=>exact⟨i+1,j-1,by go_num,by go_num,hid (by have:=Hij.out;omega),hrs.drew,(below_store (below_store hbl hgv _) hgv _).drew⟩
       case measure=>simp[intOf];omega
      ·have d1:decide (i<j)=false:=(by rw[decide_eq_false_iff_not];exact hlt);have hrev:half l i=l.reverse:=half_done l i (by have:=Hij.out;have:=hmv'.out;omega);rw[hrev]at hr;have hcv:=conv_row (P:=Tryz.prog) hr 72 Tryz.underlying72 Tryz.underlying5 m capv (by rw[List.length_reverse];exact hmv'.out) 9 Tryz.underlying9;clear hrev hr hl;go_wp2;go_ret;refine⟨⟨_,rfl,?_⟩,hbl⟩;rw[←HPe.out.txt HN.out];rw[←List.map_reverse];exact strOf_nats _
    ·have p1:0<n:=(by have:=rep_length_zero (n:=y);have:=Hn.out;omega);have d1:decide (0<n)=true:=by simp;exact p1
     go_wp2_with fail;refine(big_short' _ a y n c u ha Hn.out (by omega) u0 hu).mono ?_;rintro e w1 ⟨gq,cs,cq,nq,q,r0,rfl,Hnq,Hq,Hr0,r_lt,lq,haq,hrq,hb1⟩;have hown1:=owns_below hown hb1;have hbl1:=hbl.trans (hb1.mono hbl.size);have ey:Hid (y=q*b^k+r0):=hid (by rw[Hq.out,Hr0.out,←Hu.out,Nat.mul_comm];exact(Nat.div_add_mod y u).symm);have HP1:Hid (Part b N l (q*b^(k-0)+r0)):=hid (by rw[Nat.sub_zero,←ey.out];exact HP.out);have Hr1:Hid (r0<b^(k-0)):=hid (by rw[Nat.sub_zero,←Hu.out];exact r_lt);have Hq0:Hid (q=0→r0=0→False):=hid (fun e1 e2=>hy (by rw[ey.out,e1,e2,Nat.zero_mul]));clear ey Hq Hr0;go_wp2_with fail;go_loopw[7,9,10] (fun v r i wr=> ∃(j m2 rr:Nat) (l:List Nat) (cs:List Value),j≤k∧i= .int .i64 j∧r= .int .u32 rr∧wr.ownsRow w.heap.size 5 1 v m2 (nums .u8 l)∧Hid (m2=l.length)∧Hid (Part b N l (q*b^(k-j)+rr))∧Hid (rr<b^(k-j))∧m+j≤m2∧Hid (j=0→rr=r0)∧rr<4294967296∧Lay .u32 wr (some ⟨gq,0,none⟩) (rep q)∧Row wr gq 60 cs∧Below w.heap.size w wr) (fun _ _ i _=>k-(intOf i).toNat);case atStart=>exact⟨0,m,r0,l,cs,by omega,rfl,rfl,hown1,Hm,HP1,Hr1,by omega,hid (fun _=>rfl),by omega,haq,hrq,hbl1⟩
     case round=>
      clear HP1 Hr1 haq hrq hbl1 hown1 r_lt ha;obtain⟨j,m2,rr,l2,cs2,hj,rfl,rfl,hown2,Hm2,HP2,Hr2,hmj,H0,hrr,haq,hrq,hbl2⟩:=hrel;by_cases hgo:j<k∧(0<nq∨0<rr)
      ·obtain⟨hjk,hqr⟩:=hgo;have q_r:0<q∨0<rr:=by rcases hqr with h|h;exact .inl (by have:=rep_length_zero (n:=q);have:=Hnq.out;omega);exact .inr h
       have hst:=text_step (m:=k-j-1) h2 h36 (by rw[show k-j-1+1=k-j from by omega];exact HP2.out) (by rw[show k-j-1+1=k-j from by omega];exact Hr2.out) q_r;rw[show k-j-1=k-(j+1)from by omega]at hst;obtain⟨st1,st2,st3⟩:=hst;have hml:=hid (show m2<L by rw[Hm2.out,HL.out];exact Part.len_lt HP2.out h2 ((part_pos h2).2 q_r));have St1:=hid st1;clear st1;have St2:=hid st2;clear st2;have ml:=hml.out;clear q_r hml;obtain⟨d,hd⟩: ∃d,d=rr%b:=⟨_,rfl⟩;have ed:(rr:Int)%(b:Int)=(d:Int):=by rw[hd,Int.natCast_emod]
       obtain⟨r2,hr2⟩: ∃r2,r2=rr/b:=⟨_,rfl⟩;have er:(rr:Int)/(b:Int)=(r2:Int):=by rw[hr2,Int.natCast_ediv]
       have r2l:r2≤rr:=(by rw[hr2];exact Nat.div_le_self _ _);rw[←hd]at St1 st3;rw[←hr2]at St1 St2;clear hd hr2;have sg:=fun W=>sign_at W d st3
       have d1:decide (j<k)=true:=(by rw[decide_eq_true_eq];exact hjk);have hsz:=hbl2.size;by_cases hnq:0<nq
       ·have d2:decide (0<nq)=true:=(by rw[decide_eq_true_eq];exact hnq);clear hqr;go_wp2_with(at_builtin;refine wpList_append_row rfl _ _ 72 rfl .u8 w.heap.size 5 (.int .u8 0) 1 Tryz.underlying72 info8 rfl _ m2 l2 rfl (hown2.alloc _) wr.heap.size 1 rfl (sgn d) _ (by simp) rfl (by omega) (by omega) (by rw[World.size_alloc];omega) ?_;intro v' w3 hown3 hb3 hszw hgr;replace hszw:=hid hszw);have hrqA:Row (wr.alloc (.cells #[.int .u8 ((sgn d:Nat):Int)] 5)) gq 60 cs2:=hrq.alloc _;have hrq3:=hgr gq 60 cs2 (by decide) hrqA;have haq3:=(haq.below ((Below.refl _ wr).alloc (Nat.le_refl _) (.cells #[.int .u8 ((sgn d:Nat):Int)] 5))).kept (w':=w3) hszw.out (Eq.trans hrq3 hrqA.symm);have hbl3:=(hbl2.alloc hbl2.size _).trans hb3;clear hgr hrqA;go_wp2_with fail;go_roundw;case rel=>exact⟨j+1,m2+1,r2,l2++[sgn d],cs2,by omega,by go_num,rfl,hown3,hid (by rw[List.length_append,Hm2.out];rfl),St1,St2,by omega,hid (fun h=>by omega),by omega,haq3,hrq3,hbl3⟩
        case measure=>simp[intOf];omega
       ·have d2:decide (0<nq)=false:=(by rw[decide_eq_false_iff_not];exact hnq);have d3:decide (0<rr)=true:=by rw[decide_eq_true_eq];omega
        clear hqr;go_wp2_with(at_builtin;refine wpList_append_row rfl _ _ 72 rfl .u8 w.heap.size 5 (.int .u8 0) 1 Tryz.underlying72 info8 rfl _ m2 l2 rfl (hown2.alloc _) wr.heap.size 1 rfl (sgn d) _ (by simp) rfl (by omega) (by omega) (by rw[World.size_alloc];omega) ?_;intro v' w3 hown3 hb3 hszw hgr;replace hszw:=hid hszw);have hrqA:Row (wr.alloc (.cells #[.int .u8 ((sgn d:Nat):Int)] 5)) gq 60 cs2:=hrq.alloc _;have hrq3:=hgr gq 60 cs2 (by decide) hrqA;have haq3:=(haq.below ((Below.refl _ wr).alloc (Nat.le_refl _) (.cells #[.int .u8 ((sgn d:Nat):Int)] 5))).kept (w':=w3) hszw.out (Eq.trans hrq3 hrqA.symm);have hbl3:=(hbl2.alloc hbl2.size _).trans hb3;clear hgr hrqA;go_wp2_with fail;go_roundw;case rel=>exact⟨j+1,m2+1,r2,l2++[sgn d],cs2,by omega,by go_num,rfl,hown3,hid (by rw[List.length_append,Hm2.out];rfl),St1,St2,by omega,hid (fun h=>by omega),by omega,haq3,hrq3,hbl3⟩
        case measure=>simp[intOf];omega
      ·have hex:Hid (Part b N l2 q∧m<m2):=by
        by_cases hjk:j<k
        ·have hz:nq=0∧rr=0:=(by omega);have hq0:q=0:=by have:=rep_length_zero (n:=q);have:=Hnq.out;omega
         refine⟨?_,?_⟩
         ·have:=HP2.out;rw[hq0,hz.2,Nat.zero_mul,Nat.add_zero]at this;rw[hq0];exact this
         ·rcases Nat.eq_zero_or_pos j with hj0|hj0
          ·exact(Hq0.out hq0 (by rw[←H0.out hj0];exact hz.2)).elim
          ·omega
        ·have hjk':j=k:=(by omega);have h1:=Hr2.out;have h3:=HP2.out;rw[hjk',Nat.sub_self,Nat.pow_zero]at h1 h3;rw[show rr=0 from by omega,Nat.mul_one,Nat.add_zero]at h3;exact⟨h3,by omega⟩
       have hs1:=hid (owns_len hown);have hs2:=hid (owns_len hown2);have hlm:=hid (show m2≤L by rw[Hm2.out,HL.out];exact Part.len hex.out.1);clear HP2 Hr2 H0 Hq0;by_cases hjk:j<k
       ·have d1:decide (j<k)=true:=(by rw[decide_eq_true_eq];exact hjk);have d2:decide (0<nq)=false:=by rw[decide_eq_false_iff_not];omega
        have d3:decide (0<rr)=false:=(by rw[decide_eq_false_iff_not];omega);clear hgo hjk;go_wp2_with fail;go_roundw;case rel=>exact⟨some ⟨gq,0,none⟩,nq,cq,q,m2,l2,rfl,Hnq,by omega,haq,hown2,hid hs2.out,Hm2,hid hex.out.1,hbl2⟩
        case measure=>have:=hs1.out;have:=hs2.out;have:=hlm.out;have:=hex.out.2;omega
       ·have d1:decide (j<k)=false:=(by rw[decide_eq_false_iff_not];exact hjk);clear hgo hjk;go_wp2_with fail;go_roundw;case rel=>exact⟨some ⟨gq,0,none⟩,nq,cq,q,m2,l2,rfl,Hnq,by omega,haq,hown2,hid hs2.out,Hm2,hid hex.out.1,hbl2⟩
        case measure=>have:=hs1.out;have:=hs2.out;have:=hlm.out;have:=hex.out.2;omega
end Go.Proofs.YtbffpkmfhkphdaaGreatDoor
namespace Go.Proofs.YtbffpkmfhkphdaaGreatDoor
open Go Lib Go.RowKit Limb
def smallO(n:Int):Nat:=((2*n+1)%4294967296).toNat
def valueO(o:Nat):Int:=(if o<2147483648 then(o:Int)-1 else(o:Int)-4294967296-1)/2
def isSm(n:Int):Bool:=decide (-1073741824≤n)&&decide (n≤1073741823)
theorem or_one{x:Int}(h0:0≤x)(h1:x<4294967296)(h2:x%2=0):bits .or .u32 x 1=x+1:=by
 obtain⟨a,rfl⟩: ∃a:Nat,x=a:=⟨x.toNat,by omega⟩;have h3:=u32_or_nat a 1 (by omega) (by omega);rw[nat_join 1 a 1 (by omega) (by decide)]at h3;simpa using h3
theorem oop_small(w:World)(n:Int)(hn:isSm n=true):Calls Tryz.prog 138 #[.int .i64 n] w fun e w'=>e= .returned (.tuple #[.int .u32 (smallO n),.int .i64 0])∧w=w':=by
 have HF:=oop_fits w n;unfold isSm at hn;rw[hn]at HF;have HF:=hid HF;go_enter Tryz.func138,Tryz.ntmps138;go_wp2_with fail;refine(HF.out).mono ?_;rintro e W ⟨rfl,rfl⟩;(try dsimp only);go_wp2_with fail
 have e1:bits .or .u32 (n%4294967296*2%4294967296) 1=(smallO n:Int):=by
  rw[or_one (by omega) (by omega) (by omega)];unfold smallO;omega
 rw[e1];go_ret2;exact⟨rfl,rfl⟩
theorem oop_value(w:World)(o:Nat)(ho:o<4294967296)(h1:o%2=1):Calls Tryz.prog 128 #[.int .u32 o] w fun e w'=>e= .returned (.tuple #[.int .i64 (valueO o),.int .i64 0])∧w=w':=by
 have hk:=oop_kind w o ho;rw[show kindN o=1 from by unfold kindN;rw[if_neg (by omega),if_pos h1]]at hk;have HF:=hid hk;go_enter Tryz.func128,Tryz.ntmps128;go_wp2_with fail;refine(HF.out).mono ?_;rintro e W ⟨rfl,rfl⟩;(try dsimp only);go_wp2_with fail
 have e1:wrap64 (wrap32 (o:Int)/2)=valueO o:=by
  have h3:valueO o=(if o<2147483648 then(o:Int)-1 else(o:Int)-4294967296-1)/2:=rfl;simp only[wrap32,wrap64];split at h3<;>omega
 rw[e1];go_ret2;exact⟨rfl,rfl⟩
end Go.Proofs.YtbffpkmfhkphdaaGreatDoor

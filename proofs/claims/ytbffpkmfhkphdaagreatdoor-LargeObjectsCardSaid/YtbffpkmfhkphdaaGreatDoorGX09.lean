/- The walk of SetBytes of package big's integers. The walks of plus, Add, Sub of package big's integers. The walks of package oop's headers: may, pack, Pack, Unpack. -/
import Derived.Test.YtbffpkmfhkphdaaGreatDoorGX08
import Derived.Test.YtbffpkmfhkphdaaGreatDoorGX02
set_option linter.unusedVariables false
set_option linter.unusedSimpArgs false
set_option maxRecDepth 1000000
set_option maxHeartbeats 6400000
namespace Go.Proofs.YtbffpkmfhkphdaaGreatDoor
open Go Lib Go.RowKit Limb
theorem size8(W:World):(sizeOf 5).run Tryz.prog W= .ok 1 W:=by kernel_rfl
theorem info8:(Tryz.prog.info? 5).map (fun i=>(i.zero,i.size,i.bytes))=some (some (.int .u8 0),1,1):=by kernel_rfl
theorem row_index{P:Program}{t e:TypeId}(ht:P.underlying t=some (.slice e))(hs: ∀W,(sizeOf e).run P W= .ok 1 W)(g n cap:Nat)(k:IntKind)(i:Int)(d:Nat)(hi:i=d)(hd:d<n)(W:World):(Instr.indexAt t (.slice (some ⟨g,0,none⟩) n cap) (.int k i)).run P W= .ok (.pointer (some ⟨g,d,none⟩)) W:=by
 subst hi;simp[Instr.indexAt,run_underlying ht,asIntOf,hd,hs,Result.andThen,Addr.add];intro h;omega
theorem pow8(r:Nat):(2:Nat)^(8*r)=256^r:=by rw[Nat.pow_mul]
theorem setb_or{z b r:Nat}(hr:r<4)(hz:z<256^r)(hb:b<256):bits .or .u32 (z:Int) ((b*256^r:Nat):Int)=((z+b*256^r:Nat):Int)∧b*256^r<4294967296:=by
 have h:=pow256_le hr;have h2:=Nat.mul_le_mul_right (256^r) (show b≤255 by omega);rw[Nat.pow_succ]at h;have h3:b*256^r<4294967296:=by have:0<256^r:=Nat.pow_pos (by decide);omega
 refine⟨?_,h3⟩;rw[u32_or_nat _ _ (by omega) h3,Nat.or_comm,←pow8,nat_join (8*r) _ _ (Nat.mul_mod_left _ _) (by rw[pow8];exact hz),Nat.add_comm]
theorem int_setbytes(w:World)(p:Nat)(v:Int)(a:Option Addr)(bs:List Nat)(L cap:Nat)(hp:IntAt w p v)(hlay:Lay .u8 w a bs)(hL:L=bs.length)(hlim: ∀i,wd bs i<256)(hm:L≤1099511627776):Calls Tryz.prog 146 #[.pointer (some ⟨p,0,none⟩),.slice a L cap] w fun e w'=>IntRes w w' e p (bval (fun i=>wd bs (L-1-i)) L:Nat):=by
 obtain⟨b1,off1,hix,hcx,_⟩:=hlay.use 72 5 Tryz.underlying72 size8 cap;rw[←hL]at hix hcx;have HL:=hid hL;clear hL;have HX:=hid hix;clear hix;have HCX:=hid hcx;clear hcx;obtain⟨m,hm1,hm2⟩: ∃m,4*m≤L+3∧L≤4*m:=⟨(L+3)/4,by omega,by omega⟩;have em:((L:Int)+3)/4=m:=by omega
 go_enter Tryz.func146,Tryz.ntmps146;go_wp2_with(at_make;refine wpList_make_row rfl _ _ _ rfl 60 (.int .u32 0) 4 Tryz.underlying115 info32 rfl _ _ _ _ m m rfl rfl (by omega) (by omega) (by omega) (by omega) (by omega) ?_;intro w1 g hg1 hg2 hrow hbel);go_loopw[14] (fun i wr=> ∃(k:Nat) (xs:List Nat),k≤L∧i= .int .i64 k∧Laid (fun i=>wd bs (L-1-i)) xs m k∧Row wr g 60 (nums .u32 xs)∧Below w.heap.size w wr) (fun i _=>L-(intOf i).toNat);case atStart=>exact⟨0,List.replicate m 0,by omega,rfl,Laid.start _ _,by rw[nums_replicate];exact hrow,hbel⟩
 case round=>
  obtain⟨k,xs,hk,rfl,hD,hr,hbl⟩:=hrel;have HD:=hid hD;clear hD;by_cases hlt:k<L
  ·obtain⟨d,hd⟩: ∃d,d=k/4:=⟨_,rfl⟩;obtain⟨r,hrr⟩: ∃r,r=k%4:=⟨_,rfl⟩;have e1:(k:Int)/4=d:=by omega
   have e2:(k:Int)%4=r:=(by omega);have d_lt:d<m:=by omega
   have r_lt:r<4:=(by omega);have hstep:=HD.out.step (hlim _) (by omega);have hnew:=HD.out.new_lt (hlim _);have hhere:=HD.out.here;rw[←hd,←hrr]at hstep hnew hhere;have hpl:=pow256_le r_lt;obtain⟨eor,hsm⟩:=setb_or r_lt hhere (hlim (L-1-k));have Hd:=hid hd;clear hd;have Hr:=hid hrr;clear hrr;have HS:=hid hstep;clear hstep;have ix:=HX.out wr.drew .i64 ((L:Int)-1-k) (by omega) (by omega);rw[show((L:Int)-1-k).toNat=L-1-k from by omega]at ix;have cx:=HCX.out wr hbl (L-1-k) (by omega);have hcell:=hr.cell (i:=d) (by rw[HD.out.len];omega);have hfk:=hr.free d;have b_b:=hlim (L-1-k);obtain⟨bv,hbv⟩: ∃bv,bv=wd bs (L-1-k):=⟨_,rfl⟩;rw[←hbv]at cx b_b eor hsm HS hnew;clear hbv;have ep:(2:Int)^(8*r)=((256^r:Nat):Int):=by rw[←pow8,Int.natCast_pow];rfl
   have esh:(bv:Int)*2^(8*r)=((bv*256^r:Nat):Int):=(by rw[ep,Int.natCast_mul]);obtain⟨t,ht⟩: ∃t,t=bv*256^r:=⟨_,rfl⟩;rw[←ht]at eor hsm HS hnew esh;clear ep ht;have ig:=row_index (P:=Tryz.prog) Tryz.underlying115 size32 g m m .i64 ((k:Int)/4) d e1 d_lt;clear e1;go_wp2;go_region;go_wp2;go_roundw;case rel=>exact⟨k+1,xs.set d (wd xs d+t),by omega,by go_num,HS.out,(hr.store _ _ _ (by omega)).drew,(below_store hbl hg1 _).drew⟩
   case measure=>simp[intOf];omega
  ·obtain rfl:k=L:=by omega
   have hl2:=hr.lay;have hlim2:=HD.out.lim;have hlen:=HD.out.len;have hle2:=rep_val_le hlim2;have heq:=HD.out.eq;have Heq:=hid heq;clear heq;have Hlen:=hid hlen;clear hlen;go_wp2_with fail;refine(big_norm _ _ xs _ _ hl2 hlim2 Hlen.out.symm (by omega) (by omega)).mono ?_;rintro e w' ⟨rfl,rfl⟩;rw[Heq.out]at hle2 ⊢;rw[Hlen.out]at hle2;have hln:=hl2.norm hlim2;rw[Heq.out]at hln;go_wp2_with fail;refine(big_made _ p v _ _ _ _ _ (hp.only (ps:=[]) (Only.of_below hbl) (by simp) (IntBlocks.nil _)) (by rw[Int.natAbs_natCast];exact hln) (by rw[Int.natAbs_natCast]) hle2 ⟨fun h=>(by simp at h),fun _=>Int.natCast_nonneg _⟩).mono ?_;rintro e w2 ⟨rfl,h5,h6⟩;go_wp2;go_ret;exact⟨rfl,h5,(Only.of_below hbl).trans h6 (by simp)⟩
end Go.Proofs.YtbffpkmfhkphdaaGreatDoor
namespace Go.Proofs.YtbffpkmfhkphdaaGreatDoor
open Go Lib Go.RowKit Limb
def signed(neg:Bool)(n:Nat):Int:=if neg then -(n:Int)else n
theorem signed_of(z:Int):signed (decide (z<0)) z.natAbs=z:=by unfold signed;split<;>simp_all<;>omega
theorem signed_not(z:Int):signed (!decide (z<0)) z.natAbs= -z:=by unfold signed;split<;>simp_all<;>omega
theorem big_sum'(w:World)(a b:Option Addr)(x y n m:Nat)(ca cb:Nat)(ha:Lay .u32 w a (rep x))(hb:Lay .u32 w b (rep y))(hn:n=(rep x).length)(hm:m=(rep y).length)(lx:n≤1099511627776)(ly:m≤1099511627776):Calls Tryz.prog 151 #[.slice a n ca,.slice b m cb] w fun e w'=> ∃a c s,e= .returned (.slice a s c)∧s=(rep (x+y)).length∧s≤c∧Lay .u32 w' a (rep (x+y))∧Below w.heap.size w w':=by
 subst hn hm;have:=big_sum w a b (rep x) (rep y) ca cb ha hb (rep_lim _) (rep_lim _) lx ly;rw[val_rep,val_rep]at this;exact this.mono fun e w' ⟨a,c,h1,h2,_,h4,h5⟩=>⟨a,c,_,h1,rfl,h2,h4,h5⟩
theorem big_less'(w:World)(a b:Option Addr)(x y n m:Nat)(ca cb:Nat)(ha:Lay .u32 w a (rep x))(hb:Lay .u32 w b (rep y))(hn:n=(rep x).length)(hm:m=(rep y).length)(lx:n≤1099511627776)(hle:y≤x):Calls Tryz.prog 167 #[.slice a n ca,.slice b m cb] w fun e w'=> ∃a c s,e= .returned (.slice a s c)∧s=(rep (x-y)).length∧s≤c∧Lay .u32 w' a (rep (x-y))∧Below w.heap.size w w':=by
 have:=big_less w a b (rep x) (rep y) n m ca cb ha hb (rep_lim _) (rep_lim _) hn hm lx (by rw[val_rep,val_rep];exact hle) (by rw[hn,hm];exact rep_mono hle);rw[val_rep,val_rep]at this;exact this.mono fun e w' ⟨a,c,h1,h2,_,h4,h5⟩=>⟨a,c,_,h1,rfl,h2,h4,h5⟩
theorem int_plus(w:World)(p q:Nat)(v x:Int)(neg:Bool)(a:Option Addr)(m n cap:Nat)(hp:IntAt w p v)(hq:IntAt w q x)(hl:Lay .u32 w a (rep m))(hn:n=(rep m).length)(hc:n≤cap)(hs:(rep x.natAbs).length≤68719476736)(ht:n≤68719476736):Calls Tryz.prog 153 #[.pointer (some ⟨p,0,none⟩),.pointer (some ⟨q,0,none⟩),.bool neg,.slice a n cap] w fun e w'=>IntRes w w' e p (x+signed neg m):=by
 obtain⟨b,a1,n1,cap1,Hb,Hn1,hc1,hl1,hcells⟩:=hq.use;obtain⟨c0,c1⟩:=hcells w (Only.refl _ _);have HC:=hid hcells;clear hcells;rw[←Hn1.out]at hs;have Hn:=hid hn;clear hn;obtain⟨r,hr⟩: ∃r,r=x+signed neg m:=⟨_,rfl⟩;rw[←hr];by_cases hb:b=neg
 ·subst hb;have hres:r.natAbs=x.natAbs+m:=by rw[hr,Hb.out];unfold signed;split<;>simp_all<;>omega
  have hsg:(b=true→r≤0)∧(b=false→0≤r):=(by rw[hr,Hb.out];unfold signed;constructor<;>intro h<;>simp_all<;>omega);have HR:=hid hres;clear hres;have HS:=hid hsg;clear hsg;have hbb:(b==b)=true:=by cases b<;>rfl
  clear hr;go_enter Tryz.func153,Tryz.ntmps153;go_wp2_with fail;refine(big_sum' _ a1 a x.natAbs m n1 n cap1 cap hl1 hl Hn1.out Hn.out (by omega) (by omega)).mono ?_;rintro e w1 ⟨a2,c2,s2,rfl,h1,h2,h3,h4⟩;have H1:=hid h1;clear h1;go_wp2_with fail;refine(big_made _ p v r _ _ _ _ (hp.below h4) (by rw[HR.out];exact h3) (by rw[HR.out];exact H1.out) h2 HS.out).mono ?_;rintro e w2 ⟨rfl,h5,h6⟩;go_wp2;go_ret;exact⟨rfl,h5,(Only.of_below h4).trans h6 (by simp)⟩
 ·have hbb:(b==neg)=false:=(by cases b<;>cases neg<;>simp_all);by_cases hle:m≤x.natAbs
  ·have hcm:decide (0≤cmpI x.natAbs m)=true:=(by unfold cmpI;split<;>(try split)<;>simp<;>omega);have hres:r.natAbs=x.natAbs-m:=by rw[hr];rw[Hb.out]at hb;unfold signed;split<;>simp_all<;>omega
   have hsg:(b=true→r≤0)∧(b=false→0≤r):=by
    have hbo:=Hb.out;rw[hr];unfold signed;constructor<;>intro h<;>subst h<;>simp at hbo<;>cases neg<;>simp_all<;>omega
   have HR:=hid hres;clear hres;have HS:=hid hsg;clear hsg;have HC0:=fun k=>big_compare (w.drewN k) a1 a (rep x.natAbs) (rep m) n1 n cap1 cap (hl1.drewN k) (hl.drewN k) (rep_lim _) (rep_lim _) (rep_norm _) (rep_norm _) Hn1.out Hn.out (by omega) (by omega)
   simp only[val_rep]at HC0;have HCm:=hid HC0;clear HC0;clear hr hb;go_enter Tryz.func153,Tryz.ntmps153;go_wp2_with fail;refine(HCm.out 0).mono ?_;rintro e w1 ⟨rfl,k1,rfl⟩;go_wp2_with fail;obtain⟨W,hW⟩: ∃W,W=w.drewN k1:=⟨_,rfl⟩;have hpW:IntAt W p v:=by rw[hW];exact hp
   have hl1W:Lay .u32 W a1 (rep x.natAbs):=(by rw[hW];exact hl1);have hlW:Lay .u32 W a (rep m):=by rw[hW];exact hl
   have hoW:Only [] w W:=(by rw[hW];exact(Only.refl _ _).drewN _);have e0:=(HC.out W hoW).1;have e1:=(HC.out W hoW).2;rw[←hW];clear hW c0 c1;go_region_with (first |(go_at_call 167;refine(big_less' _ a1 a x.natAbs m n1 n cap1 cap ?_ ?_ Hn1.out Hn.out (by omega) hle).mono ?_;exact hl1W.drew;exact hlW.drew;rintro e w1 ⟨a2,c2,s2,rfl,h1,h2,h3,h4⟩;have H1:=hid h1;clear h1;have e0':=(HC.out w1 (hoW.trans (Only.of_below (ps:=[]) (below_of_drew h4)) (by simp))).1)|(go_at_call 148;refine(big_made _ p v r _ _ _ _ ?_ ?_ ?_ ?_ HS.out).mono ?_;exact hpW.drew.below h4;rw[HR.out];exact h3;rw[HR.out];exact H1.out;exact h2;rintro e w2 ⟨rfl,h5,h6⟩));all_goals go_wp2
   all_goals go_ret
   all_goals exact⟨rfl,h5,(hoW.mono (by simp)).trans ((Only.of_below (ps:=[p]) (below_of_drew h4)).trans h6 (by simp)) (by simp)⟩
  ·have hcm:decide (0≤cmpI x.natAbs m)=false:=(by unfold cmpI;rw[if_pos (by omega)];rfl);have hres:r.natAbs=m-x.natAbs:=by rw[hr];rw[Hb.out]at hb;unfold signed;split<;>simp_all<;>omega
   have hsg:(neg=true→r≤0)∧(neg=false→0≤r):=by
    rw[hr];unfold signed;constructor<;>intro h<;>subst h<;>simp<;>omega
   have HR:=hid hres;clear hres;have HS:=hid hsg;clear hsg;have HC0:=fun k=>big_compare (w.drewN k) a1 a (rep x.natAbs) (rep m) n1 n cap1 cap (hl1.drewN k) (hl.drewN k) (rep_lim _) (rep_lim _) (rep_norm _) (rep_norm _) Hn1.out Hn.out (by omega) (by omega)
   simp only[val_rep]at HC0;have HCm:=hid HC0;clear HC0;clear hr hb;go_enter Tryz.func153,Tryz.ntmps153;go_wp2_with fail;refine(HCm.out 0).mono ?_;rintro e w1 ⟨rfl,k1,rfl⟩;have hW:Only [] w (w.drewN k1):=(Only.refl _ _).drewN _;go_wp2_with fail;refine(big_less' _ a a1 m x.natAbs n n1 cap cap1 (hl.drewN k1) (hl1.drewN k1) Hn.out Hn1.out (by omega) (by omega)).mono ?_;rintro e w1 ⟨a2,c2,s2,rfl,h1,h2,h3,h4⟩;have H1:=hid h1;clear h1;go_wp2_with fail;refine(big_made _ p v r _ _ _ _ ((hp.drewN k1).below h4) (by rw[HR.out];exact h3) (by rw[HR.out];exact H1.out) h2 HS.out).mono ?_;rintro e w2 ⟨rfl,h5,h6⟩;go_wp2;go_ret;exact⟨rfl,h5,(hW.mono (by simp)).trans ((Only.of_below (ps:=[p]) h4).trans h6 (by simp)) (by simp)⟩
theorem int_add(w:World)(p q r:Nat)(v x y:Int)(hp:IntAt w p v)(hq:IntAt w q x)(hr:IntAt w r y)(hs:(rep x.natAbs).length≤68719476736)(ht:(rep y.natAbs).length≤68719476736):Calls Tryz.prog 72 #[.pointer (some ⟨p,0,none⟩),.pointer (some ⟨q,0,none⟩),.pointer (some ⟨r,0,none⟩)] w fun e w'=>IntRes w w' e p (x+y):=by
 obtain⟨b,a,n,cap,Hb,Hn,hc,hl,hcells⟩:=hr.use;obtain⟨c0,c1⟩:=hcells w (Only.refl _ _);clear hcells;rw[←Hn.out]at ht;have hfin:=fun W h1 h2 h3=>int_plus W p q v x b a y.natAbs n cap h1 h2 h3 Hn.out hc hs ht
 rw[Hb.out,signed_of,←Hb.out]at hfin;have HF:=hid hfin;clear hfin;go_enter Tryz.func72,Tryz.ntmps72;go_wp2;go_region_with (go_at_call 153;refine(HF.out _ ?_ ?_ ?_).mono ?_;exact hp.drew;exact hq.drew;exact hl.drew;rintro e w2 ⟨rfl,h5,h6⟩);all_goals go_wp2
 all_goals go_ret
 all_goals exact⟨rfl,h5,Only.of_drew h6⟩
theorem int_sub(w:World)(p q r:Nat)(v x y:Int)(hp:IntAt w p v)(hq:IntAt w q x)(hr:IntAt w r y)(hs:(rep x.natAbs).length≤68719476736)(ht:(rep y.natAbs).length≤68719476736):Calls Tryz.prog 106 #[.pointer (some ⟨p,0,none⟩),.pointer (some ⟨q,0,none⟩),.pointer (some ⟨r,0,none⟩)] w fun e w'=>IntRes w w' e p (x-y):=by
 obtain⟨b,a,n,cap,Hb,Hn,hc,hl,hcells⟩:=hr.use;obtain⟨c0,c1⟩:=hcells w (Only.refl _ _);clear hcells;rw[←Hn.out]at ht;have hfin:=fun W h1 h2 h3=>int_plus W p q v x (!b) a y.natAbs n cap h1 h2 h3 Hn.out hc hs ht
 rw[Hb.out,signed_not,←Hb.out,←Int.sub_eq_add_neg]at hfin;have HF:=hid hfin;clear hfin;go_enter Tryz.func106,Tryz.ntmps106;go_wp2;go_region_with (go_at_call 153;refine(HF.out _ ?_ ?_ ?_).mono ?_;exact hp.drew;exact hq.drew;exact hl.drew;rintro e w2 ⟨rfl,h5,h6⟩);all_goals go_wp2
 all_goals go_ret
 all_goals exact⟨rfl,h5,Only.of_drew h6⟩
end Go.Proofs.YtbffpkmfhkphdaaGreatDoor
namespace Go.Proofs.YtbffpkmfhkphdaaGreatDoor
open Go Lib Go.RowKit Limb
def hdV(h:Hd):Value:= .agg #[.int .i64 h.size,.int .i64 h.fmt,.int .i64 h.spare,.int .u32 h.cls,.int .u32 h.ser]
def w3V(a b c:Nat):Value:= .agg #[.int .u32 a,.int .u32 b,.int .u32 c]
def Spares(w:World):Prop:=5≤w.heap.size∧∀i,i<5→w.cell? ⟨2,i,none⟩=some (.bool (decide (i=2)))
theorem Spares.below{B:Nat}{w w':World}(h:Spares w)(hb:Below B w w')(hB:5≤B):Spares w':=
 ⟨Nat.le_trans h.1 hb.size,fun i hi=>by rw[hb.cell (by show 2<B;omega)];exact h.2 i hi⟩
theorem Spares.only{ps:List Nat}{w w':World}(h:Spares w)(ho:Only ps w w')(hp:2∉ps):Spares w':=
 ⟨Nat.le_trans h.1 ho.size,fun i hi=>by rw[←h.2 i hi];exact World.cell?_of_block (ho.block 2 (by have:=h.1;omega) hp)⟩
theorem oop_may(w:World)(h:Hd)(k:h.Ok)(hs:Spares w):Calls Tryz.prog 273 #[hdV h] w fun e w'=>e= .returned (.bool true)∧Below w.heap.size w w':=by
 obtain⟨sz,f,sp,c,s⟩:=h;have h1:sz≤65535:=k.size;have h2:1≤f:=k.f1;have h3:f≤4:=k.f4;have h4:sp≤3:=k.spare;have h5:sp=0∨(f=2∧0<sz):=k.sp;unfold hdV;simp only;have d1:decide ((sz:Int)<0)=false:=decide_eq_false (by omega);have d2:decide ((65535:Int)<(sz:Int))=false:=decide_eq_false (by omega);have d2':decide (65535<sz)=false:=decide_eq_false (by omega);have d3:decide ((f:Int)≤0)=false:=decide_eq_false (by omega);have d3':decide (f≤0)=false:=decide_eq_false (by omega);have d3'':decide (f=0)=false:=decide_eq_false (by omega);have d4:decide ((5:Int)≤(f:Int))=false:=decide_eq_false (by omega);have d4':decide (5≤f)=false:=decide_eq_false (by omega);have d5:decide ((sp:Int)<0)=false:=decide_eq_false (by omega);have d6:decide ((3:Int)<(sp:Int))=false:=decide_eq_false (by omega);have d6':decide (3<sp)=false:=decide_eq_false (by omega);have hB:Below w.heap.size w (w.alloc (.cells #[.int .i64 sz,.int .i64 f,.int .i64 sp,.int .u32 c,.int .u32 s] 159)):=(Below.refl _ _).alloc (Nat.le_refl _) _;rcases h5 with h5|⟨h5,h6⟩
 ·subst h5;clear k h1 h2 h3 h4 hs;go_enter Tryz.func273,Tryz.ntmps273;go_wp2_with fail;go_ret;exact⟨rfl,hB⟩
 ·subst h5;by_cases h0:sp=0
  ·subst h0;clear k h1 h2 h3 h4 hs;go_enter Tryz.func273,Tryz.ntmps273;go_wp2_with fail;go_ret;exact⟨rfl,hB⟩
  ·have q:((sp:Int)==0)=false:=(by rw[beq_eq_false_iff_ne];omega);have d7:decide ((0:Int)<(sz:Int))=true:=decide_eq_true (by omega);have d7':decide (0<sz)=true:=decide_eq_true h6;have hc:=hs.2 2 (by decide);simp only[decide_true]at hc;have hl:2<w.heap.size:=by have:=hs.1;omega
   clear k h1 h2 h3 h4 hs h0 h6;go_enter Tryz.func273,Tryz.ntmps273;go_wp2_with fail;go_ret;exact⟨rfl,hB⟩
theorem pack_bits{sz f sp:Nat}(h1:sz≤65535)(h3:f≤4)(h4:sp≤3):bits .or .u32 (bits .or .u32 (sz:Int) ((f:Int)*16777216)) ((sp:Int)*134217728)=((sz+f*16777216+sp*134217728:Nat):Int):=by
 have e1:(f:Int)*16777216=((f*16777216:Nat):Int):=by omega
 have e2:(sp:Int)*134217728=((sp*134217728:Nat):Int):=by omega
 rw[e1,e2,u32_or_nat sz _ (by omega) (by omega),Nat.or_comm,nat_join 24 _ _ (by omega) (by omega),u32_or_nat _ _ (by omega) (by omega),Nat.or_comm,nat_join 27 _ _ (by omega) (by omega)];congr 1;omega
theorem oop_pack0(w:World)(h:Hd)(k:h.Ok):Calls Tryz.prog 274 #[hdV h] w fun e w'=>e= .returned (w3V h.w0 h.cls h.ser)∧Below w.heap.size w w':=by
 obtain⟨sz,f,sp,c,s⟩:=h;have h1:sz≤65535:=k.size;have h2:1≤f:=k.f1;have h3:f≤4:=k.f4;have h4:sp≤3:=k.spare;have HB:=hid (pack_bits h1 h3 h4);unfold hdV;simp only;go_enter Tryz.func274,Tryz.ntmps274;go_wp2_with fail;rw[HB.out];refine bodyPost_ret (v:=w3V (sz+f*16777216+sp*134217728) c s) (by simp[results,Tryz.results274,go_sem,w3V]) rfl ⟨rfl,?_⟩;exact((Below.refl _ _).alloc (Nat.le_refl _) _).alloc (by rw[World.size_alloc];omega) _
theorem alloc_row(w:World)(t:TypeId)(cs:List Value): ∃W,W=w.alloc (.cells cs.toArray t)∧Row W w.heap.size t cs∧Below w.heap.size w W∧W.heap.size=w.heap.size+1:=
 ⟨_,rfl,by unfold Row;exact heap_alloc_new _ _,(Below.refl _ _).alloc (Nat.le_refl _) _,World.size_alloc _ _⟩
theorem Row.cells3{w:World}{g:Nat}{e:TypeId}{a b c:Value}(h:Row w g e [a,b,c]):w.cell? ⟨g,0,none⟩=some a∧w.cell? ⟨g,1,none⟩=some b∧w.cell? ⟨g,2,none⟩=some c:=
 ⟨h.cell_at 0,h.cell_at 1,h.cell_at 2⟩
theorem Row.cells5{w:World}{g:Nat}{e:TypeId}{a b c d f:Value}(h:Row w g e [a,b,c,d,f]):w.cell? ⟨g,0,none⟩=some a∧w.cell? ⟨g,1,none⟩=some b∧w.cell? ⟨g,2,none⟩=some c∧w.cell? ⟨g,3,none⟩=some d∧w.cell? ⟨g,4,none⟩=some f:=
 ⟨h.cell_at 0,h.cell_at 1,h.cell_at 2,h.cell_at 3,h.cell_at 4⟩
theorem since{P:Program}{f:FuncId}{args:Array Value}{U:World}{q:Ending→World→Prop}(h: ∀X,Below U.heap.size U X→Calls P f args X fun e X'=>q e X'∧Below X.heap.size X X')(X:World)(hx:Below U.heap.size U X):Calls P f args X fun e X'=>q e X'∧Below U.heap.size U X':=(h X hx).mono fun _ _ ⟨h1,h2⟩=>⟨h1,hx.trans (h2.mono hx.size)⟩
theorem oop_pack(w:World)(h:Hd)(k:h.Ok)(hs:Spares w):Calls Tryz.prog 209 #[hdV h] w fun e w'=>e= .returned (.tuple #[w3V h.w0 h.cls h.ser,.int .i64 0])∧Below w.heap.size w w':=by
 obtain⟨W,hW,r1,hb1,hz1⟩:=alloc_row w 159 [.int .i64 h.size,.int .i64 h.fmt,.int .i64 h.spare,.int .u32 h.cls,.int .u32 h.ser];obtain⟨V,hV,r2,hb2,hz2⟩:=alloc_row W 254 [.int .u32 0,.int .u32 0,.int .u32 0];rw[hz1]at r2;have hB:Below w.heap.size w V:=hb1.trans (hb2.mono (by omega));replace r1:=r1.below hb2 r1.lt;have HV:=hid (show V=(w.alloc (.cells #[.int .i64 h.size,.int .i64 h.fmt,.int .i64 h.spare,.int .u32 h.cls,.int .u32 h.ser] 159)).alloc (.cells #[.int .u32 0,.int .u32 0,.int .u32 0] 254) by rw[hV,hW]);have h5:5≤w.heap.size:=hs.1;have HM:=hid (fun X (hx:Below w.heap.size w X)=>oop_may X h k (hs.below hx h5));have HP:=hid (fun X=>oop_pack0 X h k);have HH:=hid (show hdV h= .agg #[.int .i64 h.size,.int .i64 h.fmt,.int .i64 h.spare,.int .u32 h.cls,.int .u32 h.ser]from rfl);rw[HH.out]at HM HP ⊢;generalize h.size=sz at*
 generalize h.fmt=f at*
 generalize h.spare=sp at*
 obtain⟨w0,hw0⟩: ∃x,x=h.w0:=⟨_,rfl⟩;rw[←hw0]at HP ⊢;generalize h.cls=c at*
 generalize h.ser=s at*
 clear hV hW hz1 hz2 hb1 hb2 hs hw0 k HH;obtain⟨p0,p1,p2,p3,p4⟩:=r1.cells5;go_enter Tryz.func209,Tryz.ntmps209;go_wp2_with fail;rw[←HV.out];go_wp2_with fail;refine(HM.out V hB).mono ?_;rintro e V1 ⟨rfl,hb⟩;(try dsimp only);replace r1:=r1.below hb r1.lt;replace r2:=r2.below hb r2.lt;replace hB:=hB.trans (hb.mono hB.size);clear hb p0 p1 p2 p3 p4;obtain⟨p0,p1,p2,p3,p4⟩:=r1.cells5;go_wp2_with fail;refine(HP.out V1).mono ?_;rintro e V2 ⟨rfl,hb⟩;(try dsimp only);replace r2:=r2.below hb r2.lt;replace hB:=hB.trans (hb.mono hB.size);clear hb p0 p1 p2 p3 p4 r1;obtain⟨q0,q1,q2⟩:=r2.cells3;have z0:=r2.free 0;have z1:=r2.free 1;have z2:=r2.free 2;unfold w3V;go_wp2_with fail;have rr:=((r2.store_any 0 (.int .u32 w0)).store_any 1 (.int .u32 c)).store_any 2 (.int .u32 s);obtain⟨f0,f1,f2⟩:=Row.cells3 rr;refine bodyPost_ret (v:= .tuple #[.agg #[.int .u32 w0,.int .u32 c,.int .u32 s],.int .i64 0]) (by simp[results,Tryz.results209,go_sem,f0,f1,f2]) rfl ⟨rfl,?_⟩;exact below_store (below_store (below_store hB (by omega) _) (by omega) _) (by omega) _
end Go.Proofs.YtbffpkmfhkphdaaGreatDoor

/- The walks of Neg, Abs, Sign, BitLen, Bit, Cmp of package big's integers. The walks of package oop: kinds, indices, small integers. What the walk of the document's boot asks of the heaps on its way. What a boot's walk asks of the heap behind the classes. -/
import Derived.Test.YtbffpkmfhkphdaaGreatDoorGX07
import Derived.StillTailTactics
import Derived.Deep.RegionWith
import Derived.Test.YtbffpkmfhkphdaaGreatDoorGX01
import Derived.Laws.BitsAll
set_option linter.unusedVariables false
set_option linter.unusedSimpArgs false
set_option maxRecDepth 1000000
namespace Go.Proofs.YtbffpkmfhkphdaaGreatDoor
open Go Lib Go.RowKit Limb
theorem Lay.drew{K:IntKind}{w:World}{a:Option Addr}{l:List Nat}(h:Lay K w a l):Lay K w.drew a l:=h
theorem IntAt.drew{w:World}{p:Nat}{z:Int}(h:IntAt w p z):IntAt w.drew p z:=h
theorem Only.of_drew{ps:List Nat}{w w':World}(h:Only ps w.drew w'):Only ps w w':=⟨h.os,h.tape,h.output,h.size,h.block⟩
theorem below_of_drew{w w':World}(h:Below w.drew.heap.size w.drew w'):Below w.heap.size w w':=⟨h.os,h.tape,h.output,h.size,h.block⟩
theorem IntAt.use{w:World}{p:Nat}{z:Int}(h:IntAt w p z): ∃b a n cap,Hid (b=decide (z<0))∧Hid (n=(rep z.natAbs).length)∧n≤cap∧Lay .u32 w a (rep z.natAbs)∧(∀w',Only [] w w'→w'.cell? ⟨p,0,none⟩=some (.bool b)∧w'.cell? ⟨p,1,none⟩=some (.slice a n cap)):=by
 obtain⟨a,cap,hr,hl,hc⟩:=h;refine⟨_,a,_,cap,rfl,rfl,hc,hl,fun w' ho=>?_⟩;have:=hr.only ho (by simp);exact⟨this.cell_at 0,this.cell_at 1⟩
theorem int_neg(w:World)(p q:Nat)(y z:Int)(hp:IntAt w p y)(hq:IntAt w q z)(hs:(rep z.natAbs).length≤68719476736):Calls Tryz.prog 74 #[.pointer (some ⟨p,0,none⟩),.pointer (some ⟨q,0,none⟩)] w fun e w'=>IntRes w w' e p (-z):=by
 obtain⟨b,a,n,cap,Hb,Hn,hc,hl,hcells⟩:=hq.use;obtain⟨c0,c1⟩:=hcells w (Only.refl _ _);have HC:=hid hcells;clear hcells;rw[←Hn.out]at hs;go_enter Tryz.func74,Tryz.ntmps74;go_wp2;go_region_with (first |(go_at_call 155;refine(big_clone _ a (rep z.natAbs) n cap ?_ Hn.out (by omega)).mono ?_;exact hl.drew;rintro e w1 ⟨a',c',rfl,h1,h2,h3⟩;have c0':=(HC.out w1 (Only.of_below (below_of_drew h3))).1)|(go_at_call 148;refine(big_made _ p y (-z) _ _ n _ ?_ ?_ ?_ ?_ ?_).mono ?_;exact hp.drew.below h3;rw[Int.natAbs_neg];assumption;rw[Int.natAbs_neg];exact Hn.out;assumption;rw[Hb.out];(constructor<;>intro h<;>simp at h<;>omega);rintro e w2 ⟨rfl,h4,h5⟩));all_goals go_wp2
 all_goals go_ret
 all_goals exact⟨rfl,h4,(Only.of_below (below_of_drew h3)).trans h5 (by simp)⟩
def sgnI(z:Int):Int:=if z<0 then -1 else if z=0 then 0 else 1
theorem int_sign(w:World)(q:Nat)(z:Int)(hq:IntAt w q z):Calls Tryz.prog 61 #[.pointer (some ⟨q,0,none⟩)] w fun e w'=>e= .returned (.int .i64 (sgnI z))∧w=w':=by
 obtain⟨b,a,n,cap,Hb,Hn,hc,hl,hcells⟩:=hq.use;obtain⟨c0,c1⟩:=hcells w (Only.refl _ _);clear hcells;have hz0:n=0↔z=0:=by rw[Hn.out,rep_length_zero];omega
 by_cases hneg:z<0
 ·have:b=true:=(by rw[Hb.out];simpa using hneg);subst this;have e:sgnI z= -1:=by unfold sgnI;rw[if_pos hneg]
  rw[e];clear hz0 e hneg;go_enter Tryz.func61,Tryz.ntmps61;go_wp2;go_ret;exact⟨rfl,rfl⟩
 ·have:b=false:=(by rw[Hb.out];simpa using hneg);subst this;by_cases hz:z=0
  ·have hn:n=0:=hz0.2 hz;have e:sgnI z=0:=by unfold sgnI;rw[if_neg hneg,if_pos hz]
   rw[e];clear hz0 e hneg hz Hn;subst hn;go_enter Tryz.func61,Tryz.ntmps61;go_wp2;go_ret;exact⟨rfl,rfl⟩
  ·have hn:n≠0:=fun h=>hz (hz0.1 h)
   have e:sgnI z=1:=(by unfold sgnI;rw[if_neg hneg,if_neg hz]);have hq:((n:Int)==0)=false:=by rw[beq_eq_false_iff_ne];omega
   rw[e];clear hz0 e hneg hz;go_enter Tryz.func61,Tryz.ntmps61;go_wp2;go_ret;exact⟨rfl,rfl⟩
theorem int_bitlen(w:World)(q:Nat)(z:Int)(hq:IntAt w q z)(hs:(rep z.natAbs).length≤68719476736):Calls Tryz.prog 81 #[.pointer (some ⟨q,0,none⟩)] w fun e w'=>e= .returned (.int .i64 (bitsN z.natAbs:Nat))∧w=w':=by
 obtain⟨b,a,n,cap,Hb,Hn,hc,hl,hcells⟩:=hq.use;obtain⟨c0,c1⟩:=hcells w (Only.refl _ _);clear hcells;rw[←Hn.out]at hs;go_enter Tryz.func81,Tryz.ntmps81;go_wp2_with fail;refine(big_length _ a (rep z.natAbs) n cap hl (rep_lim _) (rep_norm _) Hn.out (by omega)).mono ?_;rw[val_rep];rintro e w' ⟨rfl,rfl⟩;go_wp2;go_ret;exact⟨rfl,rfl⟩
theorem bit_of{N i:Nat}:wd (rep N) (i/32)/2^(i%32)%2=N/2^i%2:=by
 rw[rep_wd,show 4294967296=2^(i%32)*(2*2^(31-i%32))from by rw[←Nat.pow_succ',←Nat.pow_add,show i%32+(31-i%32+1)=32 from by omega],Nat.mod_mul_right_div_self,Nat.mod_mul_right_mod,Nat.div_div_eq_div_mul,Nat.mul_comm,←pow_split]
theorem int_bit(w:World)(q i:Nat)(z:Int)(hq:IntAt w q z)(hi:i≤9223372036854775807):Calls Tryz.prog 159 #[.pointer (some ⟨q,0,none⟩),.int .i64 i] w fun e w'=>e= .returned (.int .u64 (z.natAbs/2^i%2:Nat))∧w=w':=by
 obtain⟨b,a,n,cap,Hb,Hn,hc,hl,hcells⟩:=hq.use;obtain⟨c0,c1⟩:=hcells w (Only.refl _ _);clear hcells;rw[←bit_of];obtain⟨d,hd⟩: ∃d,d=i/32:=⟨_,rfl⟩;obtain⟨r,hr⟩: ∃r,r=i%32:=⟨_,rfl⟩;have e1:(i:Int)/32=d:=by omega
 have e2:(i:Int)%32=r:=by omega
 rw[←hd,←hr];have d_le:d≤9223372036854775807:=by omega
 have r_lt:r<32:=by omega
 clear hd hr;have h1:=(rep_lim z.natAbs).wd d;obtain⟨x,hx⟩: ∃x,x=wd (rep z.natAbs) d:=⟨_,rfl⟩;rw[←hx]at h1 ⊢;have hdig:=big_digit w a (rep z.natAbs) n cap d hl (rep_lim _) Hn.out (by omega) (by omega);rw[Int.toNat_natCast,←hx]at hdig;have HD:=hid hdig;clear hdig hx;have ep:(2:Int)^r=((2^r:Nat):Int):=by rw[Int.natCast_pow];rfl
 obtain⟨pw,hpw⟩: ∃pw,pw=2^r:=⟨_,rfl⟩;have hp0:0<pw:=by rw[hpw];exact Nat.pow_pos (by decide)
 rw[←hpw]at ep ⊢;clear hpw
 have eand:bits .and .u64 ((x:Int)/(pw:Int)) 1=((x/pw%2:Nat):Int):=by
  have h:=Nat.div_le_self x pw;rw[←Int.natCast_ediv];generalize x/pw=t at*
  rw[and_one_u64 _ (by omega) (by omega),Int.natCast_emod];rfl
 obtain⟨bt,hbt⟩: ∃bt,bt=x/pw%2:=⟨_,rfl⟩;rw[←hbt]at eand ⊢;clear hbt;go_enter Tryz.func159,Tryz.ntmps159;go_wp2_with(go_at_call 237;refine HD.out.mono ?_;rintro e w' ⟨rfl,rfl⟩);go_ret;exact⟨rfl,rfl⟩
end Go.Proofs.YtbffpkmfhkphdaaGreatDoor
namespace Go.Proofs.YtbffpkmfhkphdaaGreatDoor
open Go Lib Go.RowKit Limb
def kindN(o:Nat):Nat:=if o=0 then 0 else if o%2=1 then 1 else 2
theorem and_one(o:Nat)(ho:o<4294967296):bits .and .u32 (o:Int) 1=((o%2:Nat):Int):=by
 rw[show(1:Int)=((1:Nat):Int)from rfl,u32_and_nat o 1 ho (by decide),nat_mask1]
theorem oop_kind(w:World)(o:Nat)(ho:o<4294967296):Calls Tryz.prog 217 #[.int .u32 o] w fun e w'=>e= .returned (.int .i64 (kindN o))∧w=w':=by
 have hb:=and_one o ho;by_cases h0:o=0
 ·subst h0;clear hb;go_enter Tryz.func217,Tryz.ntmps217;go_wp2;go_ret;exact⟨rfl,rfl⟩
 ·have q0:((o:Int)==0)=false:=(by rw[beq_eq_false_iff_ne];omega);have q0':(o==0)=false:=by rw[beq_eq_false_iff_ne];omega
  by_cases h1:o%2=1
  ·have e:kindN o=1:=(by unfold kindN;rw[if_neg h0,if_pos h1]);rw[e];rw[h1]at hb;clear h0 h1 e ho;go_enter Tryz.func217,Tryz.ntmps217;go_wp2;go_ret;exact⟨rfl,rfl⟩
  ·have e:kindN o=2:=(by unfold kindN;rw[if_neg h0,if_neg h1]);have h2:o%2=0:=by omega
   rw[e];rw[h2]at hb;clear h0 h1 h2 e ho;go_enter Tryz.func217,Tryz.ntmps217;go_wp2;go_ret;exact⟨rfl,rfl⟩
def idxN(o:Nat):Nat:=if kindN o=2 then o/2 else 0
def idxE(o:Nat):Nat:=if kindN o=2 then 0 else 3
theorem oop_index(w:World)(o:Nat)(ho:o<4294967296):Calls Tryz.prog 219 #[.int .u32 o] w fun e w'=>e= .returned (.tuple #[.int .i64 (idxN o),.int .i64 (idxE o)])∧w=w':=by
 have hk:=oop_kind w o ho;have HD:=hid (show((o/2:Nat):Int)=(o:Int)/2 from by omega);by_cases h2:kindN o=2
 ·have e1:idxN o=o/2:=(by unfold idxN;rw[if_pos h2]);have e2:idxE o=0:=by unfold idxE;rw[if_pos h2]
  rw[h2]at hk;rw[e1,e2];have HK:=hid hk;clear hk h2 e1 e2;go_enter Tryz.func219,Tryz.ntmps219;go_wp2_with fail;refine HK.out.mono ?_;rintro e w1 ⟨rfl,rfl⟩;(try dsimp only);go_wp2_with fail;go_ret2;exact⟨rfl,rfl⟩
 ·have e1:idxN o=0:=(by unfold idxN;rw[if_neg h2]);have e2:idxE o=3:=by unfold idxE;rw[if_neg h2]
  have q:(((kindN o:Nat):Int) != 2)=true:=(by rw[bne_iff_ne];omega);have q2:(((kindN o:Nat):Int)==2)=false:=by rw[beq_eq_false_iff_ne];omega
  generalize kindN o=kk at*
  rw[e1,e2];have HK:=hid hk;clear hk h2 e1 e2;go_enter Tryz.func219,Tryz.ntmps219;go_wp2_with fail;refine HK.out.mono ?_;rintro e w1 ⟨rfl,rfl⟩;(try dsimp only);go_wp2_with fail;go_ret2;exact⟨rfl,rfl⟩
theorem oop_fits(w:World)(n:Int):Calls Tryz.prog 206 #[.int .i64 n] w fun e w'=>e= .returned (.bool (decide (-1073741824≤n)&&decide (n≤1073741823)))∧w=w':=by
 by_cases h1: -1073741824≤n
 ·have d1:decide (-1073741824≤n)=true:=decide_eq_true h1;by_cases h2:n≤1073741823
  ·have d2:decide (n≤1073741823)=true:=decide_eq_true h2;rw[d1,d2];go_enter Tryz.func206,Tryz.ntmps206;go_wp2_with fail;go_ret;exact⟨rfl,rfl⟩
  ·have d2:decide (n≤1073741823)=false:=decide_eq_false h2;rw[d1,d2];go_enter Tryz.func206,Tryz.ntmps206;go_wp2_with fail;go_ret;exact⟨rfl,rfl⟩
 ·have d1:decide (-1073741824≤n)=false:=decide_eq_false h1;rw[d1];go_enter Tryz.func206,Tryz.ntmps206;go_wp2_with fail;go_ret;exact⟨rfl,rfl⟩
theorem oop_at(w:World)(n:Nat)(h1:1≤n)(h2:n≤2147483647):Calls Tryz.prog 211 #[.int .i64 n] w fun e w'=>e= .returned (.tuple #[.int .u32 (2*n:Nat),.int .i64 0])∧w=w':=by
 have d1:decide ((n:Int)<1)=false:=decide_eq_false (by omega);have d2:decide (2147483647<(n:Int))=false:=decide_eq_false (by omega);have d3:decide (2147483647<n)=false:=decide_eq_false (by omega);have d4:decide (n<1)=false:=decide_eq_false (by omega);go_enter Tryz.func211,Tryz.ntmps211;go_wp2_with fail;go_ret2;exact⟨by rw[Int.natCast_mul];rfl,rfl⟩
end Go.Proofs.YtbffpkmfhkphdaaGreatDoor
namespace Go.Proofs.YtbffpkmfhkphdaaGreatDoor.Limb
structure StepsR (n:Nat) (h1 h2:Hp) (ms:List Nat) (hE:Hp):Prop where
 first:firstR n=some h1
 pairs:pairsP tenOn h1=some (ms,h2)
 good:Good h1
 paired:Paired h2 ms
 paired2:Paired (clsAll bareCls (wireAllR ms 0 plans h2)) ms
 rest:((nameAll 0 plans (clsAll bareCls (wireAllR ms 0 plans h2))).bind fun h=>(selAll 0 sels h).bind fun h=>fieldAll 0 plans h)=some hE
def qstepsR(n:Nat):Bool:=
 match qfirstR n with
 |none=>false
 |some p1=>match qpairs tenOn p1 with
  |none=>false
  |some (ms,p2)=>okPk p2 ms&&match(qwireAllR ms 0 plans p2).bind fun z=>qclsAll bareCls z with
   |none=>false
   |some p3=>okPk p3 ms
theorem up_firstR{n:Nat}(h1:64≤n)(h2:n≤1048576):Up1 (firstR n) (qfirstR n):=by
 refine(up_allocR (good_empty h1 h2) 0 0).bind1 fun h k=>?_
 show Up1 ((some (nilR [5,7,9] h)).bind fun h=>firstAll (first7.drop 1) h) _
 exact(up_nilR _ h k).bind1 fun h3 k3=>up_firstAll _ h3 k3
theorem stepsR_of{n:Nat}(h1:64≤n)(h2:n≤1048576){hE:Hp}(hb:bootR n=some hE)(hq:qstepsR n=true): ∃a b ms,StepsR n a b ms hE:=by
 unfold bootR at hb;obtain⟨hB,e1,e2⟩:=Option.bind_eq_some_iff.1 hb;unfold bonesR at e1;obtain⟨hA,e3,e4⟩:=Option.bind_eq_some_iff.1 e1;unfold classesR at e4;obtain⟨⟨ms,hP⟩,e5,e6⟩:=Option.map_eq_some_iff.1 e4;unfold qstepsR at hq;split at hq
 ·cases hq
 ·rename_i p1 hp1;obtain⟨hA',x1,rfl,kA⟩:=up_firstR h1 h2 p1 hp1;obtain rfl:hA'=hA:=Option.some.inj (x1.symm.trans e3);split at hq
  ·cases hq
  ·rename_i ms2 p2 hp2;obtain⟨hP',z2,rfl,kP⟩:=up_pairs tenOn _ kA ms2 p2 hp2;have z3:=Option.some.inj (z2.symm.trans e5);rw[Prod.mk.injEq]at z3;obtain⟨rfl,rfl⟩:=z3;rw[Bool.and_eq_true]at hq;obtain⟨q1,q2⟩:=hq;split at q2
   ·cases q2
   ·rename_i p3 hp3;obtain⟨p4,y4,y5⟩:=Option.bind_eq_some_iff.1 hp3;obtain⟨hW,w1,rfl,kW⟩:=up_wireAllR ms2 plans 0 hP' kP p4 y4;obtain rfl:=Option.some.inj w1;obtain⟨hC,c1,rfl,kC⟩:=up_clsAll bareCls _ kW p3 y5;obtain rfl:=Option.some.inj c1;exact⟨hA',hP',ms2,e3,z2,kA,paired_of kP q1,paired_of kC q2,by rw[e6];exact e2⟩
theorem qstepsR_3000:qstepsR 3000=true:=by decide+kernel
theorem firstR_parts{n:Nat}(h1:64≤n)(h2:n≤1048576){hA:Hp}(e:firstR n=some hA): ∃o h0,allocP (emptyH n) 0 1 0=some (o,h0)∧isO h0 o=true∧o<4294967296∧Good (setR (setR (setR (setR h0 0 o) 5 o) 7 o) 9 o)∧firstAll (first7.drop 1) (setR (setR (setR (setR h0 0 o) 5 o) 7 o) 9 o)=some hA:=by
 unfold firstR at e;obtain⟨h0',e1,e2⟩:=Option.bind_eq_some_iff.1 e;unfold allocR at e1;obtain⟨⟨o,h0⟩,e3,e4⟩:=Option.map_eq_some_iff.1 e1;obtain⟨g,i⟩:=grow_alloc (good_empty h1 h2) (by decide) (by decide) (by decide) e3;have io:=isF_isO i;have lo:=isO_lt g.good io;have g1:=g.good.setR (i:=0) lo;have g2:=g1.setR (i:=5) lo;have g3:=g2.setR (i:=7) lo;have g4:=g3.setR (i:=9) lo;refine⟨o,h0,e3,io,lo,g4,?_⟩;rw[←e4]at e2;have r0:wd (setR h0 0 o).rt 0=o:=by rw[setR_root g.good (by decide),if_pos rfl]
 have r5:wd (setR (setR h0 0 o) 5 o).rt 0=o:=by rw[setR_root g1 (by decide),if_neg (by decide),r0]
 have r7:wd (setR (setR (setR h0 0 o) 5 o) 7 o).rt 0=o:=by rw[setR_root g2 (by decide),if_neg (by decide),r5]
 have e5:nilR [5,7,9] (setR h0 0 o)=setR (setR (setR (setR h0 0 o) 5 o) 7 o) 9 o:=by
  show setR (setR (setR (setR h0 0 o) 5 (wd (setR h0 0 o).rt 0)) 7 (wd (setR (setR h0 0 o) 5 (wd (setR h0 0 o).rt 0)).rt 0)) 9 (wd (setR (setR (setR h0 0 o) 5 (wd (setR h0 0 o).rt 0)) 7 (wd (setR (setR h0 0 o) 5 (wd (setR h0 0 o).rt 0)).rt 0)).rt 0)=_
  rw[r0,r5,r7]
 rw[e5]at e2;exact e2
theorem allocP_setR(h:Hp)(r v n:Nat)(h0:r≠0):allocP (setR h r v) 0 1 n=(allocP h 0 1 n).map fun x=>(x.1,setR x.2 r v):=by
 have e0:wd (setR h r v).rt 0=wd h.rt 0:=by
  unfold setR wd;show(h.rt.set r v).getD 0 0=_
  rw[List.getD_eq_getElem?_getD,List.getD_eq_getElem?_getD,List.getElem?_set_ne (by omega)]
 unfold allocP;rw[e0];have e1:(clsO (setR h r v) 0&&room (setR h r v) n)=(clsO h 0&&room h n):=rfl;rw[e1];split
 ·rfl
 ·rfl
theorem pairs_step{r:Nat}{t:List Nat}{h hP:Hp}{ms:List Nat}(k:Good h)(h0:r≠0)(e:pairsP (r :: t) h=some (ms,hP)): ∃c m h1 h2 ms',allocP h 0 1 6=some (c,h1)∧allocP h1 0 1 6=some (m,h2)∧c<4294967296∧m<4294967296∧Good (setR h2 r c)∧ms=m :: ms'∧pairsP t (setR h2 r c)=some (ms',hP):=by
 obtain⟨h1',e1,e2⟩:=Option.bind_eq_some_iff.1 e;obtain⟨⟨c,h1⟩,e3,e4⟩:=Option.map_eq_some_iff.1 e1;obtain⟨⟨m,h2'⟩,e5,e6⟩:=Option.bind_eq_some_iff.1 e2;obtain⟨⟨ms',hP'⟩,e7,e8⟩:=Option.map_eq_some_iff.1 e6;rw[←e4,allocP_setR _ _ _ _ h0]at e5;obtain⟨⟨m2,h2⟩,e9,e10⟩:=Option.map_eq_some_iff.1 e5;rw[Prod.mk.injEq]at e8 e10;obtain⟨rfl,rfl⟩:=e8;obtain⟨rfl,rfl⟩:=e10;obtain⟨g1,i1⟩:=grow_alloc k (by decide) (by decide) (by decide) e3;obtain⟨g2,i2⟩:=grow_alloc g1.good (by decide) (by decide) (by decide) e9;have lc:=isO_lt g1.good (isF_isO i1);exact⟨c,m2,h1,h2,ms',e3,e9,lc,isO_lt g2.good (isF_isO i2),g2.good.setR lc,rfl,e7⟩
end Go.Proofs.YtbffpkmfhkphdaaGreatDoor.Limb
namespace Go.Proofs.YtbffpkmfhkphdaaGreatDoor.Limb
def qsteps2(n:Nat):Bool:=
 match(qfirstAll first7 (pk (emptyH n))).bind fun x=>(qnilR [5,7,9] x).bind fun x=>(qpairs tenOn x).bind fun y=>(qwireAll y.1 0 plans y.2).bind fun z=>(qclsAll bareCls z).map fun p=>(y.1,p)with
 |none=>false
 |some (ms,p)=>okPk p ms
theorem steps2_of{n:Nat}(h1:64≤n)(h2:n≤1048576){a b hE:Hp}{ms:List Nat}(s:Steps n a b ms hE)(hq:qsteps2 n=true):Paired (clsAll bareCls (wireAll ms 0 plans b)) ms:=by
 have k0:=good_empty h1 h2;unfold qsteps2 at hq;split at hq
 ·cases hq
 ·rename_i ms2 p hp;obtain⟨p1,y1,hp⟩:=Option.bind_eq_some_iff.1 hp;obtain⟨p2,y2,hp⟩:=Option.bind_eq_some_iff.1 hp;obtain⟨⟨ms3,p3⟩,y3,hp⟩:=Option.bind_eq_some_iff.1 hp;obtain⟨p4,y4,hp⟩:=Option.bind_eq_some_iff.1 hp;obtain⟨p5,y5,hp⟩:=Option.map_eq_some_iff.1 hp;rw[Prod.mk.injEq]at hp;obtain⟨rfl,rfl⟩:=hp;obtain⟨hA,x1,rfl,kA⟩:=up_firstAll first7 _ k0 p1 y1;obtain rfl:hA=a:=Option.some.inj (x1.symm.trans s.first);obtain⟨hN,z1,rfl,kN⟩:=up_nilR [5,7,9] hA kA p2 y2;obtain rfl:=Option.some.inj z1;obtain⟨hP,z2,rfl,kP⟩:=up_pairs tenOn _ kN ms3 p3 y3;have z3:=Option.some.inj (z2.symm.trans s.pairs);rw[Prod.mk.injEq]at z3;obtain⟨rfl,rfl⟩:=z3;obtain⟨hW,w1,rfl,kW⟩:=up_wireAll ms3 plans 0 hP kP p4 y4;obtain rfl:=Option.some.inj w1;obtain⟨hC,c1,rfl,kC⟩:=up_clsAll bareCls _ kW p5 y5;obtain rfl:=Option.some.inj c1;exact paired_of kC hq
theorem qsteps2_3000:qsteps2 3000=true:=by decide+kernel
end Go.Proofs.YtbffpkmfhkphdaaGreatDoor.Limb

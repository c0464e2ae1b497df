/- The walks of IsInt64, Int64 of package big's integers, and of large.Int. The walks of the reference's May and cut. The walk of large.Pow, where the power is made. The walk of the law's same, of two integers that are written alike. Moves in a region that draws its order; new variables. -/
import Derived.Test.YtbffpkmfhkphdaaGreatDoorGX00
import Derived.Test.YtbffpkmfhkphdaaGreatDoorGX15
import Derived.Test.YtbffpkmfhkphdaaGreatDoorGX12
import Derived.Test.YtbffpkmfhkphdaaGreatDoorGX14
set_option linter.unusedVariables false
set_option linter.unusedSimpArgs false
set_option maxRecDepth 1000000
set_option maxHeartbeats 6400000
namespace Go.Proofs.YtbffpkmfhkphdaaGreatDoor
open Go Lib Go.RowKit Limb
def inI64(z:Int):Bool:=decide (-9223372036854775808≤z)&&decide (z≤9223372036854775807)
theorem inI64_iff{z:Int}:inI64 z=true↔ -9223372036854775808≤z∧z≤9223372036854775807:=by unfold inI64;simp
theorem low_rep{n:Nat}(h:(rep n).length≤2):val (rep n)%18446744073709551616=n:=by
 rw[val_rep];have h1:=rep_length_le.1 h;rw[show Limb.W 2=18446744073709551616 from by decide]at h1;omega
theorem long_out{z:Int}(h:2<(rep z.natAbs).length):inI64 z=false:=by
 have h1:=rep_length_lt.1 h;rw[show Limb.W 2=18446744073709551616 from by decide]at h1;rw[Bool.eq_false_iff,Ne,inI64_iff];omega
theorem in_short{z:Int}(h:inI64 z=true):(rep z.natAbs).length≤2:=by
 rw[inI64_iff]at h;exact len_i64 h.1 h.2
theorem int_is64(w:World)(q:Nat)(z:Int)(hq:IntAt w q z)(hs:(rep z.natAbs).length≤68719476736):Calls Tryz.prog 98 #[.pointer (some ⟨q,0,none⟩)] w fun e w'=>e= .returned (.bool (inI64 z))∧w=w':=by
 obtain⟨b,a,n,cap,Hb,Hn,hc,hl,hcells⟩:=hq.use;obtain⟨c0,c1⟩:=hcells w (Only.refl _ _);clear hcells;rw[←Hn.out]at hs;by_cases h2:2<n
 ·have d1:decide (2<n)=true:=decide_eq_true h2;have d1':decide ((2:Int)<(n:Int))=true:=decide_eq_true (by omega);have HO:=hid (long_out (z:=z) (by rw[←Hn.out];exact h2));clear h2 hl;go_enter Tryz.func98,Tryz.ntmps98;go_wp2_with fail;go_ret;rw[HO.out];exact⟨rfl,rfl⟩
 ·have d1:decide (2<n)=false:=decide_eq_false h2;have d1':decide ((2:Int)<(n:Int))=false:=decide_eq_false (by omega);have hlow:=big_low w a (rep z.natAbs) n cap hl (rep_lim _) Hn.out (by omega);rw[low_rep (by rw[←Hn.out];omega)]at hlow;obtain⟨N,hN⟩: ∃N,N=z.natAbs:=⟨_,rfl⟩;rw[←hN]at hlow;have HL:=hid hlow;have HN:=hid hN;clear hlow hl h2 hN;by_cases hlt:N<9223372036854775808
  ·have d2:decide ((N:Int)<9223372036854775808)=true:=decide_eq_true (by omega);have d2':decide (N<9223372036854775808)=true:=decide_eq_true hlt;have HO:=hid (show inI64 z=true by rw[inI64_iff];have:=HN.out;omega);clear hlt;go_enter Tryz.func98,Tryz.ntmps98;go_wp2_with fail;refine HL.out.mono ?_;rintro e w1 ⟨rfl,rfl⟩;(try dsimp only);go_wp2_with fail;go_ret;rw[HO.out];exact⟨rfl,rfl⟩
  ·have d2:decide ((N:Int)<9223372036854775808)=false:=decide_eq_false (by omega);have d2':decide (N<9223372036854775808)=false:=decide_eq_false hlt;cases b with
   |false=>
    have HO:=hid (show inI64 z=false by
     rw[Bool.eq_false_iff,Ne,inI64_iff];have h1:=HN.out;have h3:=of_decide_eq_false Hb.out.symm;omega)
    clear hlt;go_enter Tryz.func98,Tryz.ntmps98;go_wp2_with fail;refine HL.out.mono ?_;rintro e w1 ⟨rfl,rfl⟩;(try dsimp only);go_wp2_with fail;go_ret;rw[HO.out];exact⟨rfl,rfl⟩
   |true=>
    have h3:=of_decide_eq_true Hb.out.symm;by_cases he:N=9223372036854775808
    ·have d3:((N:Int)==9223372036854775808)=true:=(by rw[beq_iff_eq];omega);have HO:=hid (show inI64 z=true by rw[inI64_iff];have:=HN.out;omega);clear hlt he h3;go_enter Tryz.func98,Tryz.ntmps98;go_wp2_with fail;refine HL.out.mono ?_;rintro e w1 ⟨rfl,rfl⟩;(try dsimp only);go_wp2_with fail;go_ret;rw[HO.out];exact⟨rfl,rfl⟩
    ·have d3:((N:Int)==9223372036854775808)=false:=by rw[beq_eq_false_iff_ne];omega
     have HO:=hid (show inI64 z=false by
      rw[Bool.eq_false_iff,Ne,inI64_iff];have h1:=HN.out;omega)
     clear hlt he h3;go_enter Tryz.func98,Tryz.ntmps98;go_wp2_with fail;refine HL.out.mono ?_;rintro e w1 ⟨rfl,rfl⟩;(try dsimp only);go_wp2_with fail;go_ret;rw[HO.out];exact⟨rfl,rfl⟩
theorem i64_neg{n:Nat}(h:n≤9223372036854775808):IntKind.i64.wrap (IntKind.u64.wrap (-(n:Int)))= -(n:Int):=by
 simp[IntKind.wrap,IntKind.bits,IntKind.signed];omega
theorem i64_pos{n:Nat}(h:n<9223372036854775808):IntKind.i64.wrap (n:Int)=(n:Int):=by
 simp[IntKind.wrap,IntKind.bits,IntKind.signed];omega
theorem int_int64(w:World)(q:Nat)(z:Int)(hq:IntAt w q z)(hz:inI64 z=true):Calls Tryz.prog 99 #[.pointer (some ⟨q,0,none⟩)] w fun e w'=>e= .returned (.int .i64 z)∧w=w':=by
 obtain⟨b,a,n,cap,Hb,Hn,hc,hl,hcells⟩:=hq.use;obtain⟨c0,c1⟩:=hcells w (Only.refl _ _);clear hcells;have hn2:n≤2:=by rw[Hn.out];exact in_short hz
 have hlow:=big_low w a (rep z.natAbs) n cap hl (rep_lim _) Hn.out (by omega);rw[low_rep (by rw[←Hn.out];exact hn2)]at hlow;obtain⟨N,hN⟩: ∃N,N=z.natAbs:=⟨_,rfl⟩;rw[←hN]at hlow;rw[inI64_iff]at hz;have HL:=hid hlow;clear hlow hl;cases b with
 |true=>
  have h3:=of_decide_eq_true Hb.out.symm;have hw:IntKind.i64.wrap (IntKind.u64.wrap (-(N:Int)))=z:=by rw[i64_neg (by omega)];omega
  clear h3 hN hz hn2;go_enter Tryz.func99,Tryz.ntmps99;go_wp2_with fail;refine HL.out.mono ?_;rintro e w1 ⟨rfl,rfl⟩;(try dsimp only);go_wp2_with fail;go_ret;exact⟨rfl,rfl⟩
 |false=>
  have h3:=of_decide_eq_false Hb.out.symm;have hw:IntKind.i64.wrap (N:Int)=z:=by rw[i64_pos (by omega)];omega
  clear h3 hN hz hn2;go_enter Tryz.func99,Tryz.ntmps99;go_wp2_with fail;refine HL.out.mono ?_;rintro e w1 ⟨rfl,rfl⟩;(try dsimp only);go_wp2_with fail;go_ret;exact⟨rfl,rfl⟩
theorem sgn_natAbs(neg:Bool)(n:Nat):(signed neg n).natAbs=n:=by unfold signed;split<;>omega
def lintRes(ok:Bool)(z:Int):Ending:=if ok=true then .returned (.tuple #[.int .i64 z,.int .i64 0])else .returned (.tuple #[.int .i64 0,.int .i64 1])
theorem large_int(w:World)(neg:Bool)(a:Option Addr)(l:List Nat)(m cap:Nat)(hlay:Lay .u32 w a l)(hlim:Lim l)(hm:m=l.length)(hl:m≤9223372036854775807):Calls Tryz.prog 31 #[.agg #[.bool neg,.slice a m cap]] w fun e w'=>e=lintRes (mayB neg l&&inI64 (signed neg (val l))) (signed neg (val l))∧Below w.heap.size w w':=by
 obtain⟨W,hWe,r0,hW,hzW⟩: ∃W,W=w.alloc (.cells #[.bool neg,.slice a m cap] 24)∧Row W w.heap.size 24 [.bool neg,.slice a m cap]∧Below w.heap.size w W∧True:=⟨_,rfl,by unfold Row;exact heap_alloc_new _ _,(Below.refl _ _).alloc (Nat.le_refl _) _,trivial⟩;have HWe:=hid hWe;clear hWe hzW;have hM:=large_May W neg a l m cap (hlay.below hW) hlim hm hl;obtain⟨z,hz⟩: ∃z,z=signed neg (val l):=⟨_,rfl⟩;obtain⟨ok,hok⟩: ∃ok,ok=mayB neg l:=⟨_,rfl⟩;rw[←hok]at hM;rw[←hok,←hz];have HM:=hid hM;clear hM;have c0:=r0.cell_at 0;have c1:=r0.cell_at 1;simp only[yB,yC]at c0 c1;cases ok with
 |false=>
  clear hok hz hlim hm;go_enter Tryz.func31,Tryz.ntmps31;go_wp2_with fail;rw[←HWe.out];refine HM.out.mono ?_;rintro e w1 ⟨rfl,hb1⟩;(try dsimp only);have hB1:=hW.trans (hb1.mono hW.size);go_wp2_with fail;go_ret2;exact⟨rfl,hB1⟩
 |true=>
  have hm10:m≤1024:=(by rw[hm];exact(mayB_int hlim hok.symm).2.2);have lx:(rep z.natAbs).length≤68719476736:=by rw[hz,sgn_natAbs];exact Nat.le_trans (rep_val_le hlim) (by omega)
  have hwd:=fun(w1:World) (hb:Below W.heap.size W w1)=>at_wide (At.refl w1) neg a l m cap (hlay.below (hW.trans (hb.mono hW.size))) hlim hm (by omega)
  rw[←hz]at hwd;have HWd:=hid hwd;clear hwd;clear hok hz hlim hm
  cases hin:inI64 z with
  |false=>
   have HI:=hid (fun X p (h:IntAt X p z)=>show Calls Tryz.prog 98 #[.pointer (some ⟨p,0,none⟩)] X (fun e w'=>e= .returned (.bool false)∧X=w')from by have h1:=int_is64 X p z h lx;rwa [hin]at h1);clear hin;go_enter Tryz.func31,Tryz.ntmps31;go_wp2_with fail;rw[←HWe.out];refine HM.out.mono ?_;rintro e w1 ⟨rfl,hb1⟩;(try dsimp only);have hB1:=hW.trans (hb1.mono hW.size);have r1:=r0.below hb1 r0.lt;clear c0 c1;have c0:=r1.cell_at 0;have c1:=r1.cell_at 1;simp only[yB,yC]at c0 c1;go_wp2_with fail;refine(HWd.out w1 hb1).mono ?_;rintro e w2 ⟨p,rfl,h2⟩;(try dsimp only);have hB2:=hB1.trans (h2.below.mono hB1.size);go_wp2_with fail;refine(HI.out w2 p (h2.ints _ (.head _)).1).mono ?_;rintro e w2' ⟨rfl,rfl⟩;(try dsimp only);go_wp2_with fail;go_ret2;exact⟨rfl,hB2⟩
  |true=>
   have HI:=hid (fun X p (h:IntAt X p z)=>show Calls Tryz.prog 98 #[.pointer (some ⟨p,0,none⟩)] X (fun e w'=>e= .returned (.bool true)∧X=w')from by have h1:=int_is64 X p z h lx;rwa [hin]at h1);have HJ:=hid (fun X p (h:IntAt X p z)=>int_int64 X p z h hin);clear hin;go_enter Tryz.func31,Tryz.ntmps31;go_wp2_with fail;rw[←HWe.out];refine HM.out.mono ?_;rintro e w1 ⟨rfl,hb1⟩;(try dsimp only);have hB1:=hW.trans (hb1.mono hW.size);have r1:=r0.below hb1 r0.lt;clear c0 c1;have c0:=r1.cell_at 0;have c1:=r1.cell_at 1;simp only[yB,yC]at c0 c1;go_wp2_with fail;refine(HWd.out w1 hb1).mono ?_;rintro e w2 ⟨p,rfl,h2⟩;(try dsimp only);have hB2:=hB1.trans (h2.below.mono hB1.size);have r2:=r1.below h2.below r1.lt;clear c0 c1;have c0:=r2.cell_at 0;have c1:=r2.cell_at 1;simp only[yB,yC]at c0 c1;have hb2:=hb1.trans (h2.below.mono hb1.size);go_wp2_with fail;refine(HI.out w2 p (h2.ints _ (.head _)).1).mono ?_;rintro e w2' ⟨rfl,rfl⟩;(try dsimp only);go_wp2_with fail;refine(HWd.out w2 hb2).mono ?_;rintro e w3 ⟨p3,rfl,h3⟩;(try dsimp only);have hB3:=hB2.trans (h3.below.mono hB2.size);go_wp2_with fail;refine(HJ.out w3 p3 (h3.ints _ (.head _)).1).mono ?_;rintro e w3' ⟨rfl,rfl⟩;(try dsimp only);go_wp2_with fail;go_ret2;exact⟨rfl,hB3⟩
end Go.Proofs.YtbffpkmfhkphdaaGreatDoor
namespace Go.Proofs.YtbffpkmfhkphdaaGreatDoor
open Go Lib Go.RowKit Limb
theorem mayB_false_len{neg:Bool}{l:List Nat}(h:1024<l.length):mayB neg l=false:=by
 unfold mayB;rw[if_neg (by omega),decide_eq_false (by omega)];rfl
theorem mayB_pos{neg:Bool}{l:List Nat}{k:Nat}(h:l.length=k+1)(h2:l.length≤1024):mayB neg l=decide (wd l k≠0):=by
 unfold mayB;rw[if_neg (by omega),decide_eq_true h2,h,Nat.add_sub_cancel];rfl
theorem ref_May(w:World)(neg:Bool)(a:Option Addr)(l:List Nat)(n cap:Nat)(hlay:Lay .u32 w a l)(hlim:Lim l)(hn:n=l.length)(hm:n≤9223372036854775807):Calls Tryz.prog 12 #[.agg #[.bool neg,.slice a n cap]] w fun e w'=>e= .returned (.bool (mayB neg l))∧Below w.heap.size w w':=by
 obtain⟨b1,off1,hix,hcx,_⟩:=hlay.use 22 60 Tryz.underlying22 size32 cap;rw[←hn]at hix hcx;have hB:Below w.heap.size w (w.alloc (.cells #[.bool neg,.slice a n cap] 24)):=(Below.refl _ _).alloc (Nat.le_refl _) _;by_cases h0:n=0
 ·have hb:mayB neg l=!neg:=(by unfold mayB;rw[if_pos (by omega)]);rw[hb];clear hix hcx hn hb;subst h0;cases neg<;>
  ·go_enter Tryz.func12,Tryz.ntmps12;go_wp2;go_ret;exact⟨rfl,hB⟩
 ·by_cases hl:n≤1024
  ·obtain⟨k,hk⟩: ∃k,n=k+1:=⟨n-1,by omega⟩;rw[mayB_pos (k:=k) (by omega) (by omega)];subst hk;have ix:=hix (w.alloc (.cells #[.bool neg,.slice a (k+1) cap] 24)) .i64 k (by omega) (by omega);rw[Int.toNat_natCast]at ix;have cx:=hcx _ hB k (by omega);have d1:decide (k+1≤1024)=true:=by rw[decide_eq_true_eq];exact hl
   have d2:decide (0<k+1)=true:=(by rw[decide_eq_true_eq];omega);have q1:(((k+1:Nat):Int)==0)=false:=by rw[beq_eq_false_iff_ne];omega
   have q2:((k:Int)+1==0)=false:=(by rw[beq_eq_false_iff_ne];omega);clear hix hcx hn h0;by_cases hz:wd l k=0
   ·have e:decide (wd l k≠0)=false:=(by rw[decide_eq_false_iff_not];omega);rw[e];rw[hz]at cx;clear e hz;go_enter Tryz.func12,Tryz.ntmps12;go_wp2;go_ret;exact⟨rfl,hB⟩
   ·have e:decide (wd l k≠0)=true:=(by rw[decide_eq_true_eq];exact hz);have q3:(((wd l k:Nat):Int) != 0)=true:=by rw[bne_iff_ne];omega
    have q4:(((wd l k:Nat):Int)==0)=false:=(by rw[beq_eq_false_iff_ne];omega);rw[e];clear e hz;go_enter Tryz.func12,Tryz.ntmps12;go_wp2;go_ret;exact⟨rfl,hB⟩
  ·have hb:mayB neg l=false:=mayB_false_len (by omega);rw[hb];have d1:decide (n≤1024)=false:=by rw[decide_eq_false_iff_not];exact hl
   clear hix hcx hn hb h0;go_enter Tryz.func12,Tryz.ntmps12;go_wp2;go_ret;exact⟨rfl,hB⟩
theorem ref_cut(w:World)(a:Option Addr)(l:List Nat)(n cap:Nat)(hlay:Lay .u32 w a l)(hlim:Lim l)(hn:n=l.length)(hm:n≤9223372036854775807)(hc:n≤cap):Calls Tryz.prog 101 #[.slice a n cap] w fun e w'=>e= .returned (.slice a (rep (val l)).length cap)∧w=w':=by
 by_cases hz:n=0
 ·have hv:(rep (val l)).length=0:=(by rw[List.eq_nil_of_length_eq_zero (hn.symm.trans hz)];rfl);rw[hv];clear hv hn;subst hz;go_enter Tryz.func101,Tryz.ntmps101;go_wp2;refine wp_loop_rounds 1 ?_;rw[rounds_succ];go_wp2;go_ret;exact⟨rfl,rfl⟩
 ·obtain⟨b0,off0,h1,h2⟩:=hlay;have hA:=(h1 (by omega)).1;have hlay:Lay .u32 w a l:=⟨b0,off0,h1,h2⟩;subst hA;clear h1 h2 hz;have Hn:=hid hn;clear hn;go_enter Tryz.func101,Tryz.ntmps101;go_wp2;go_loop[0] (fun s=> ∃k:Nat,k≤n∧s= .slice (some ⟨b0,off0,none⟩) k cap∧Hid (val (l.take k)=val l)) (fun s=>match s with | .slice _ k _=>k|_=>0);case atStart=>exact⟨n,Nat.le_refl _,rfl,hid (by rw[Hn.out,List.take_length])⟩
  case round=>
   obtain⟨k,hk,rfl,Hv⟩:=hrel;by_cases h0:k=0
   ·have d1:decide (0<k)=false:=(by simp[h0]);have HR:Hid ((rep (val l)).length=k):=norm_end hlim k (by rw[←Hn.out];exact hk) Hv.out (.inl h0);clear h0;go_wp2;go_ret;exact⟨by rw[HR.out];rfl,rfl⟩
   ·obtain⟨j,rfl⟩: ∃j,k=j+1:=⟨k-1,by omega⟩;obtain⟨b,off,hix,hcell,hb⟩:=(hlay.take (j+1)).use 22 60 Tryz.underlying22 size32 cap;have hlt:(l.take (j+1)).length=j+1:=by rw[List.length_take,←Hn.out];omega
    rw[hlt]at hix hcell;have ix:=hix w .i64 j (by omega) (by omega);have cx:=hcell w (Below.refl _ _) j (by omega);rw[Int.toNat_natCast]at ix;rw[wd_take (by omega)]at cx;clear hix hcell hlt hb;have d1:decide (0<j+1)=true:=by rw[decide_eq_true_eq];omega
    have ej:((j+1:Nat):Int)-1=(j:Int):=(by omega);have ej2:(j:Int)+1-1=(j:Int):=by omega
    by_cases hz:wd l j=0
    ·have q3:(((wd l j:Nat):Int)==0)=true:=(by simp[hz]);go_wp2;go_round;case rel=>exact⟨j,by omega,rfl,hid (by rw[←norm_step j (by rw[←Hn.out];omega) Hv.out hz])⟩
     case measure=>first |(simp;done)|(simp;omega)|omega
    ·have q3:(((wd l j:Nat):Int)==0)=false:=(by simp;omega);have HR:Hid ((rep (val l)).length=j+1):=norm_end hlim (j+1) (by rw[←Hn.out];exact hk) Hv.out (.inr hz);clear h0 hz;go_wp2;go_ret;exact⟨by rw[HR.out];rfl,rfl⟩
end Go.Proofs.YtbffpkmfhkphdaaGreatDoor
namespace Go.Proofs.YtbffpkmfhkphdaaGreatDoor
open Go Lib Go.RowKit Limb
theorem at_expnil{w1 X:World}{l:List (Nat×Int)}{p q r:Nat}{v x:Int}{k:Nat}(h:At w1 X l)(hp:(p,v)∈l)(hq:(q,x)∈l)(hr:(r,(k:Int))∈l)(hx:x≠0)(hk:k<18446744073709551616)(lx:(rep x.natAbs).length≤68719476736)(lT:(rep (x^k).natAbs).length≤68719476736):Calls Tryz.prog 82 #[.pointer (some ⟨p,0,none⟩),.pointer (some ⟨q,0,none⟩),.pointer (some ⟨r,0,none⟩),.pointer none] X fun e X'=>e= .returned (.pointer (some ⟨p,0,none⟩))∧At w1 X' (upd l p (x^k)):=by
 refine(int_expnil X p q r v x k (h.ints _ hp).1 (h.ints _ hq).1 (h.ints _ hr).1 hx hk lx lT).mono ?_;rintro e X' ⟨rfl,h1,h2⟩;exact⟨rfl,h.set hp h2 h1⟩
theorem signed_abs(neg:Bool)(n:Nat):(signed neg n).natAbs=n:=by unfold signed;split<;>omega
theorem bits_two{x:Nat}(h:2≤x):2≤bitsN x:=by
 rcases Nat.lt_or_ge (bitsN x) 2 with h1|h1
 ·have:x<2^1:=bitsN_le.1 (by omega);omega
 ·exact h1
theorem pow_lt_W{E M:Nat}(h:E<32*M):2^E<Limb.W M:=by rw[W_two];exact Nat.pow_lt_pow_right (by decide) h
theorem pow_bits{x k B:Nat}(hB:B=bitsN x)(hB0:1≤B)(hk:(B-1)*k≤32768)(hk2:k≤32768):(rep (x^k)).length≤68719476736:=by
 rw[rep_length_le];have h1:x<2^B:=by rw[hB];exact bitsN_le.1 (Nat.le_refl _)
 have h2:x^k≤(2^B)^k:=Nat.pow_le_pow_left (Nat.le_of_lt h1) k;rw[←Nat.pow_mul]at h2
 have h3:B*k≤65536:=by
  have:B*k=(B-1)*k+k:=(by rw[←Nat.succ_mul];congr 1;omega);omega
 obtain⟨E,hE,hE2⟩: ∃E,B*k≤E∧E<32*68719476736:=⟨65536,h3,by decide⟩;have h4:2^(B*k)≤2^E:=Nat.pow_le_pow_right (by decide) hE;have h5:2^E<Limb.W 68719476736:=pow_lt_W hE2;exact Nat.lt_of_le_of_lt h2 (Nat.lt_of_le_of_lt h4 h5)
theorem at_narrow_shape{w1 X:World}{l:List (Nat×Int)}{p:Nat}{z:Int}(h:At w1 X l)(hp:(p,z)∈l)(hs:(rep z.natAbs).length≤68719476736):Calls Tryz.prog 62 #[.pointer (some ⟨p,0,none⟩)] X fun e X'=>(∃b a n c k,e= .returned (.tuple #[.agg #[.bool b,.slice a n c],.int .i64 k])∧(∀w0 w2,Below w0.heap.size w0 w2→(∀l,Lay .u32 X' a l→Lay .u32 w2 a l)→Answer true w0 w2 e z))∧At w1 X' l:=by
 refine(large_narrow X p z (h.ints _ hp).1 hs).mono ?_;rintro e X' ha;have hb:=ha.1;obtain⟨b,a,n,c,k,h1,_,h2⟩:=(Answer.yes ha).shape;exact⟨⟨b,a,n,c,k,h1,h2⟩,h.next hb⟩
theorem large_pow_big(w:World)(neg:Bool)(a:Option Addr)(l:List Nat)(n cap k:Nat)(x:Int)(hlay:Lay .u32 w a l)(hlim:Lim l)(hn:n=l.length)(hmay:mayB neg l=true)(hx:x=signed neg (val l))(hx2:2≤x.natAbs)(hk0:1≤k)(hk1:k≤32768)(hk:(bitsN x.natAbs-1)*k≤32768):Calls Tryz.prog 17 #[.agg #[.bool neg,.slice a n cap],.int .i64 k] w fun e w'=>Answer true w w' e (x^k):=by
 obtain⟨W,hWe,r0,r1,hW,hsz⟩:=rows2 w 24 (.bool neg) (.slice a n cap) (.bool false) (.slice none 0 0);have HWe:=hid hWe;clear hWe;have hn10:n≤1024:=by rw[hn];exact(mayB_int hlim hmay).2.2
 have hM:=large_May W neg a l n cap (hlay.below hW) hlim hn (by omega);rw[hmay]at hM;have HM:=hid hM;clear hM;have hWd:=fun(w1:World) (hb:Below W.heap.size W w1)=>at_wide (At.refl w1) neg a l n cap (hlay.below (hW.trans (hb.mono hW.size))) hlim hn (by omega)
 rw[←hx]at hWd;have HWd:=hid hWd;clear hWd;have lx:(rep x.natAbs).length≤1024:=by rw[hx,signed_abs];exact Nat.le_trans (rep_val_le hlim) (by omega)
 have lx':(rep x.natAbs).length≤68719476736:=Nat.le_trans lx (by decide);obtain⟨B,hB⟩: ∃B,B=bitsN x.natAbs:=⟨_,rfl⟩;have hBL:=fun X p (h:IntAt X p x)=>int_bitlen X p x h lx'
 rw[←hB]at hBL hk;have HBL:=hid hBL;clear hBL;have B2:2≤B:=by rw[hB];exact bits_two hx2
 have lT:(rep (x^k).natAbs).length≤68719476736:=by rw[Int.natAbs_pow];exact pow_bits hB (by omega) hk hk1
 have B3:B≤32769:=by have:=Nat.mul_le_mul_left (B-1) hk0;omega
 have hx0:x≠0:=by omega
 obtain⟨C,hC⟩: ∃C,B=C+1:=⟨B-1,by omega⟩;obtain⟨t,ht⟩: ∃t,t=C*k:=⟨_,rfl⟩;have t1:t≤32768:=by rw[ht];rw[hC,Nat.add_sub_cancel]at hk;exact hk
 have et:((C:Nat):Int)*(k:Int)=(t:Int):=by rw[ht,Int.natCast_mul]
 have hx0':=hid hx0;clear hB hk hx2 hx hx0 hn hmay hlim ht;subst hC;have q1:((k:Int)==0)=false:=by rw[beq_eq_false_iff_ne];omega
 have q2:(((C+1:Nat):Int)==0)=false:=by rw[beq_eq_false_iff_ne];omega
 have q3:(((C+1:Nat):Int)==1)=false:=by rw[beq_eq_false_iff_ne];omega
 have q4:decide (32768<k)=false:=by rw[decide_eq_false_iff_not];omega
 have q5:decide (32768<t)=false:=by rw[decide_eq_false_iff_not];omega
 have q6:((C+1:Nat):Int)-1=(C:Int):=by omega
 have q7:((C:Int)+1==0)=false:=by rw[beq_eq_false_iff_ne];omega
 have q8:((C:Int)+1==1)=false:=by rw[beq_eq_false_iff_ne];omega
 go_enter Tryz.func17,Tryz.ntmps17;go_wp2_with fail;rw[←HWe.out];refine HM.out.mono ?_;rintro e w1 ⟨rfl,hb1⟩;have p0:=r0.below hb1 r0.lt;have p1:=r1.below hb1 r1.lt;have c0:=p0.cell_at 0;have c1:=p0.cell_at 1;simp only[yB,yC]at c0 c1;go_wp2_with fail;refine(HWd.out w1 hb1).mono ?_;rintro e w2 ⟨p,rfl,h2⟩;go_wp2_with fail;refine(HBL.out w2 p (h2.ints _ (.head _)).1).mono ?_;rintro e w2' ⟨rfl,rfl⟩;go_wp2_with fail;refine(at_newint h2 (k:Int) (by omega) (by omega)).mono ?_;rintro e w3 ⟨r,rfl,h3⟩;go_wp2_with fail;refine(at_expnil h3 (.tail _ (.head _)) (.tail _ (.head _)) (.head _) hx0'.out (by omega) lx' lT).mono ?_;rintro e w4 ⟨rfl,h4⟩;go_wp2_with fail;refine(at_narrow_shape h4 (mem_upd _ (.tail _ (.head _))) lT).mono ?_;rintro e w5 ⟨⟨b',a',n',c',k',rfl,hnext⟩,h5⟩;have HN:=hid hnext;clear hnext;have hB1:Below w.heap.size w w5:=hW.trans ((hb1.trans (h5.below.mono hb1.size)).mono hW.size);have hR:=p1.below h5.below p1.lt;have k0:=hR.cell_at 0;have k1:=hR.cell_at 1;have k2:=hR.free 0;have k3:=hR.free 1;simp only[yB,yC]at k0 k1;have e0:(w5.setCell ⟨w.heap.size+1,0,none⟩ (.bool b')).cell? ⟨w.heap.size+1,0,none⟩=some (.bool b'):=(hR.store_any 0 _).cell_at 0;have e1:((w5.setCell ⟨w.heap.size+1,0,none⟩ (.bool b')).setCell ⟨w.heap.size+1,1,none⟩ (.slice a' n' c')).cell? ⟨w.heap.size+1,1,none⟩=some (.slice a' n' c'):=((hR.store_any 0 _).store_any 1 _).cell_at 1;have HF:=hid (below_store (below_store hB1 (g:=w.heap.size+1) (i:=0) (by omega) (.bool b')) (g:=w.heap.size+1) (i:=1) (by omega) (.slice a' n' c'));go_wp2;(try simp only[Exit.inBlock,Exit.then]);refine bodyPost_ret (v:= .tuple #[.agg #[.bool b',.slice a' n' c'],.int .i64 k']) (by simp[results,Tryz.results17,go_sem,e0,e1]) rfl ?_;exact HN.out _ _ HF.out (fun l hl=>hl.pair hR _ _)
end Go.Proofs.YtbffpkmfhkphdaaGreatDoor
namespace Go.Proofs.YtbffpkmfhkphdaaGreatDoor
open Go Lib Go.RowKit Limb
theorem below_drewN'{B:Nat}{w w':World}(h:Below B w w')(n:Nat):Below B w (w'.drewN n):=⟨h.os,h.tape,h.output,h.size,h.block⟩
theorem law_same(w:World)(b:Bool)(a1 a2:Option Addr)(l:List Nat)(n c1 c2:Nat)(h1:Lay .u32 w a1 l)(h2:Lay .u32 w a2 l)(hn:n=l.length)(hm:n≤9223372036854775807):Calls Tryz.prog 15 #[.agg #[.bool b,.slice a1 n c1],.agg #[.bool b,.slice a2 n c2]] w fun e w'=>e= .returned (.bool true)∧Below w.heap.size w w':=by
 obtain⟨W,hWe,r0,r1,hW,hsz⟩:=rows2 w 24 (.bool b) (.slice a1 n c1) (.bool b) (.slice a2 n c2);have HWe:=hid hWe;clear hWe;obtain⟨b1,off1,hix,hcx,_⟩:=(h1.below hW).use 22 60 Tryz.underlying22 size32 c1;obtain⟨b2,off2,hiy,hcy,_⟩:=(h2.below hW).use 22 60 Tryz.underlying22 size32 c2;rw[←hn]at hix hcx hiy hcy;have HX:=hid hix;clear hix;have HCX:=hid hcx;clear hcx;have HY:=hid hiy;clear hiy;have HCY:=hid hcy;clear hcy;have k0:=r0.cell_at 0;have k1:=r0.cell_at 1;have k2:=r1.cell_at 0;have k3:=r1.cell_at 1;simp only[yB,yC]at k0 k1 k2 k3;clear hn h1 h2 r0 r1;go_enter Tryz.func15,Tryz.ntmps15;go_wp2_with fail;rw[←HWe.out];go_loopw[5] (fun i wr=> ∃(k:Nat),k≤n∧i= .int .i64 k∧∃q,wr=W.drewN q) (fun i _=>n-(intOf i).toNat);case atStart=>exact⟨0,Nat.zero_le _,rfl,0,rfl⟩
 case round=>
  obtain⟨k,hk,rfl,q,rfl⟩:=hrel;by_cases hlt:k<n
  ·have ix:=fun q=>HX.out (W.drewN q) .i64 k (by omega) (by omega)
   have iy:=fun q=>HY.out (W.drewN q) .i64 k (by omega) (by omega)
   simp only[Int.toNat_natCast]at ix iy;have cx:=HCX.out W (Below.refl _ _) k (by omega);have cy:=HCY.out W (Below.refl _ _) k (by omega);go_wp2;go_quiet (fail);go_wp2;go_roundw;case rel=>exact⟨k+1,by omega,by go_num,by first |exact⟨_,rfl⟩|(simp only[World.drewN_drewN];exact⟨_,rfl⟩)⟩
   case measure=>simp[intOf];omega
  ·obtain rfl:k=n:=by omega
   go_wp2;go_ret;exact⟨rfl,below_drewN' hW _⟩
end Go.Proofs.YtbffpkmfhkphdaaGreatDoor
namespace Go.Proofs.YtbffpkmfhkphdaaGreatDoor
open Go Go.RowKit Limb
theorem wpOp_plain{P:Program}{ops:Array Oper}{Q:Exit→Act→World→Prop}{i:Nat}{o:Oper}{K:Act→World→Prop}{a:Act}{w:World}(hi:ops[i]? =some o)(hg:o.guard=none)(h:o.wp P a w K Q):wpOp P ops Q i K a w:=by
 unfold wpOp;rw[hi];simp only[Region.wanted,hg,if_true];exact .inl h
section
variable {P:Program} {md:Region.Mode} {ops:Array Oper} {Q:Exit→Act→World→Prop} {S:World→Prop}
end
theorem wpOp_alloc_int{ops:Array Oper}{Q:Exit→Act→World→Prop}{i:Nat}{o:Oper}{K:Act→World→Prop}{a:Act}{w:World}(hi:ops[i]? =some o)(hg:o.guard=none)(ho:o.op= .alloc 24)(h: ∀X' g,Row X' g 24 [.bool false,.slice none 0 0]→Below w.heap.size w X'→w.heap.size≤g→g<X'.heap.size→K (a.put o.dst (.pointer (some ⟨g,0,none⟩))) X'):wpOp Tryz.prog ops Q i K a w:=by
 refine wpOp_plain hi hg ?_;have hfin:=h (w.alloc (.cells #[.bool false,.slice none 0 0] 24)) w.heap.size (by unfold Row;exact heap_alloc_new _ _) ((Below.refl _ _).alloc (Nat.le_refl _) _) (Nat.le_refl _) (by rw[World.size_alloc];omega);obtain⟨dst,op,type,pos,after,guard⟩:=o;simp only at ho hg;subst ho hg;unfold Oper.wp;go_simp;exact hfin
end Go.Proofs.YtbffpkmfhkphdaaGreatDoor

/- The walks of the reference's Int and digit. The walks of package heap: Header, pointers, length, Length. The walk of the law's awake. An integer of package api that came in, read as data: what the walks ask of it. -/
import Derived.Test.YtbffpkmfhkphdaaGreatDoorGX00
import Derived.Test.YtbffpkmfhkphdaaGreatDoorGX16
import Derived.Test.YtbffpkmfhkphdaaGreatDoorGX19
import Derived.Test.YtbffpkmfhkphdaaGreatDoorGX01
import Derived.Test.YtbffpkmfhkphdaaGreatDoorRows
import Derived.ProofKit
import Derived.OpenShut
import Derived.LaidMore
import Derived.Lay
import Derived.SevenTiedAt
import Derived.Stop.Joined
import Derived.Lib.SmallJoins
import Derived.Carry
set_option linter.unusedVariables false
set_option linter.unusedSimpArgs false
set_option maxRecDepth 1000000
set_option maxHeartbeats 6400000
namespace Go.Proofs.YtbffpkmfhkphdaaGreatDoor
open Go Lib Go.RowKit Limb
def RIntRes(b:Bool)(l:List Nat)(w w':World)(e:Ending):Prop:= ∃v ok,e= .returned (.tuple #[.int .i64 v,.bool ok])∧
 Hid ((mayB b l=true→ok=inI64 (signed b (val l)))∧(ok=true→v=signed b (val l)))∧Below w.heap.size w w'
theorem val_drop_step{l:List Nat}{k:Nat}(h:k<l.length):val (l.drop k)=wd l k+4294967296*val (l.drop (k+1)):=by
 rw[List.drop_eq_getElem_cons h,val,wd_lt h]
theorem val_drop_lt{l:List Nat}(hl:Lim l)(h2:l.length≤2)(k:Nat):val (l.drop k)<18446744073709551616:=by
 have h:=val_lt (hl.drop k);refine Nat.lt_of_lt_of_le h ?_;rw[show(18446744073709551616:Nat)=Limb.W 2 from by decide];exact W_mono (by rw[List.length_drop];omega)
theorem ref_int(w:World)(b:Bool)(a:Option Addr)(l:List Nat)(n cap:Nat)(hc:Came w b a n l):Calls Tryz.prog 33 #[.agg #[.bool b,.slice a n cap]] w fun e w'=>RIntRes b l w w' e:=by
 obtain⟨hlay,hlim,hn,hm⟩:=hc;obtain⟨W,hWe,r0,hW,hzW⟩: ∃W,W=w.alloc (.cells #[.bool b,.slice a n cap] 24)∧Row W w.heap.size 24 [.bool b,.slice a n cap]∧Below w.heap.size w W∧True:=⟨_,rfl,by unfold Row;exact heap_alloc_new _ _,(Below.refl _ _).alloc (Nat.le_refl _) _,trivial⟩;have HWe:=hid hWe;clear hWe hzW;obtain⟨blk,off,hix,hcell,_⟩:=(hlay.below hW).use 22 60 Tryz.underlying22 size32 cap;rw[←hn]at hix hcell;have HX:=hid hix;clear hix;have HC:=hid hcell;clear hcell;have c0:=r0.cell_at 0;have c1:=r0.cell_at 1;simp only[yB,yC]at c0 c1;have Hn:=hid hn;have Hlim:=hid hlim;by_cases h2:2<n
 ·have d1:decide (2<n)=true:=decide_eq_true h2;have d1':decide ((2:Int)<(n:Int))=true:=decide_eq_true (by omega)
  have HO:=hid (show mayB b l=true→inI64 (signed b (val l))=false from fun h=>by
   obtain⟨e1,_,_⟩:=mayB_int hlim h;exact long_out (by rw[←e1,←hn];exact h2))
  clear h2 hlay hn hlim;go_enter Tryz.func33,Tryz.ntmps33;go_wp2_with fail;rw[←HWe.out];go_ret2;exact⟨0,false,rfl,hid ⟨fun h=>(HO.out h).symm,fun h=>by cases h⟩,hW⟩
 ·have d1:decide (2<n)=false:=decide_eq_false h2;have d1':decide ((2:Int)<(n:Int))=false:=decide_eq_false (by omega);have hn2:n≤2:=by omega
  clear h2 hlay hn hlim;go_enter Tryz.func33,Tryz.ntmps33;go_wp2_with fail;rw[←HWe.out];go_loop[4,5] (fun u i=> ∃(k x:Nat),k≤n∧i= .int .i64 ((k:Int)-1)∧u= .int .u64 x∧Hid (x=val (l.drop k))∧x<18446744073709551616) (fun _ i=>(intOf i+1).toNat);case atStart=>exact⟨n,0,Nat.le_refl _,rfl,rfl,hid (by rw[List.drop_of_length_le (by rw[←Hn.out];exact Nat.le_refl _)];rfl),by decide⟩
  case round=>
   obtain⟨k,x,hk,rfl,rfl,Hx,hx⟩:=hrel;by_cases hk0:k=0
   ·subst hk0;have HV:=hid (show x=val l by have h:=Hx.out;rwa [List.drop_zero]at h);cases b with
    |true=>
     have HO:=hid (show decide ((x:Int)≤9223372036854775808)=inI64 (signed true (val l)) by
      have h:=HV.out;rw[Bool.eq_iff_iff,decide_eq_true_eq,inI64_iff,←h];unfold signed;simp<;>omega)
     have HI:=hid (show decide ((x:Int)≤9223372036854775808)=true→IntKind.i64.wrap (IntKind.u64.wrap (-(x:Int)))=signed true (val l)from fun h=>by
      rw[i64_neg (by have:=of_decide_eq_true h;omega),←HV.out];rfl)
     obtain⟨ok,hok⟩: ∃ok,decide ((x:Int)≤9223372036854775808)=ok:=⟨_,rfl⟩;obtain⟨v,hv⟩: ∃v,IntKind.i64.wrap (IntKind.u64.wrap (-(x:Int)))=v:=⟨_,rfl⟩;rw[hok]at HO HI;rw[hv]at HI;clear Hx;go_wp2_with fail;go_ret2;exact⟨v,ok,rfl,hid ⟨fun _=>HO.out,HI.out⟩,hW⟩
    |false=>
     have HO:=hid (show decide ((x:Int)<9223372036854775808)=inI64 (signed false (val l)) by
      have h:=HV.out;rw[Bool.eq_iff_iff,decide_eq_true_eq,inI64_iff,←h];unfold signed;simp<;>omega)
     have HI:=hid (show decide ((x:Int)<9223372036854775808)=true→IntKind.i64.wrap (x:Int)=signed false (val l)from fun h=>by
      rw[i64_pos (by have:=of_decide_eq_true h;omega),←HV.out];rfl)
     obtain⟨ok,hok⟩: ∃ok,decide ((x:Int)<9223372036854775808)=ok:=⟨_,rfl⟩;obtain⟨v,hv⟩: ∃v,IntKind.i64.wrap (x:Int)=v:=⟨_,rfl⟩;rw[hok]at HO HI;rw[hv]at HI;clear Hx;go_wp2_with fail;go_ret2;exact⟨v,ok,rfl,hid ⟨fun _=>HO.out,HI.out⟩,hW⟩
   ·obtain⟨j,rfl⟩: ∃j,k=j+1:=⟨k-1,by omega⟩;have hj:((j+1:Nat):Int)-1=(j:Int):=by omega
    rw[hj];have ix:=HX.out W .i64 j (by omega) (by omega);rw[Int.toNat_natCast]at ix;have cx:=HC.out W (Below.refl _ _) j (by omega);have hxl:=Hlim.out.wd j;have hst:=val_drop_step (l:=l) (k:=j) (by rw[←Hn.out];omega);have hlt:=val_drop_lt Hlim.out (by rw[←Hn.out];exact hn2) j;rw[←Hx.out]at hst;obtain⟨y,hy⟩: ∃y,y=wd l j:=⟨_,rfl⟩;rw[←hy]at cx hxl hst;obtain⟨t,ht⟩: ∃t,t=x*4294967296:=⟨_,rfl⟩;have eM:IntKind.u64.wrap ((x:Int)*4294967296)=(t:Int):=by rw[IntKind.wrap_u64];omega
    have eT:IntKind.u64.wrap ((t:Int)+(y:Int))=((t+y:Nat):Int):=(by rw[IntKind.wrap_u64];omega);have eM2:(x:Int)*4294967296=(t:Int):=by omega
    have HN:=hid (show t+y=val (l.drop j) by omega);have tl:t+y<18446744073709551616:=by omega
    clear hj hk0 hst hlt hy ht;go_wp2_with fail;go_round;case rel=>exact⟨j,t+y,by omega,by go_num,by go_num,hid HN.out,tl⟩
    case measure=>simp[intOf]<;>omega
end Go.Proofs.YtbffpkmfhkphdaaGreatDoor
namespace Go.Proofs.YtbffpkmfhkphdaaGreatDoor
open Go Lib Go.RowKit Limb
def hdZ:Hd:=⟨0,0,0,0,0⟩
def hdX(h:Hp)(o:Nat):Hd:=if isO h o=true then hdO h o else hdZ
def erX(h:Hp)(o:Nat):Nat:=if isO h o=true then 0 else 3
theorem idxN_of{h:Hp}{o:Nat}(ho:isO h o=true):idxN o=o/2:=by
 unfold idxN;rw[if_pos (kind_two.2 ⟨(isO_iff.1 ho).1,(isO_iff.1 ho).2.1⟩)]
section
variable {w:World} {F:Foot} {h:Hp}
theorem heap_Header(H:HeapAt w F h)(o:Nat)(ho:o<4294967296):Calls Tryz.prog 129 #[.pointer (some ⟨F.p,0,none⟩),.int .u32 o] w fun e w'=>e= .returned (.tuple #[hdV (hdX h o),.int .i64 (erX h o)])∧Below w.heap.size w w':=by
 obtain⟨W,hW,r0,hB,hz⟩:=alloc_row w 159 [.int .i64 0,.int .i64 0,.int .i64 0,.int .u32 0,.int .u32 0];have HW:=hid hW;have HH:=H.belowB hB (Nat.le_refl _);have HI:=hid (heap_is HH o ho);by_cases hi:isO h o=true
 ·have HA:=hid (heap_at o ho W (.pointer (some ⟨F.p,0,none⟩)));have hb:=heap_header HH (o/2) (isO_iff.1 hi).2.2;have ha:=HA.out;rw[idxN_of hi]at ha;have HA:=hid ha;have e1:hdX h o=hd h (o/2):=by unfold hdX;rw[if_pos hi];rfl
  have e2:erX h o=0:=(by unfold erX;rw[if_pos hi]);rw[e1,e2];have hI:=HI.out;rw[hi]at hI;have HI:=hid hI;generalize o/2=i at*
  generalize hd h i=x at*
  have ex:hdV x= .agg #[.int .i64 x.size,.int .i64 x.fmt,.int .i64 x.spare,.int .u32 x.cls,.int .u32 x.ser]:=rfl;rw[ex]at hb ⊢;generalize x.size=x0 at*
  generalize x.fmt=x1 at*
  generalize x.spare=x2 at*
  generalize x.cls=x3 at*
  generalize x.ser=x4 at*
  have HD:=hid hb;clear hb ha hI e1 e2 ex hW hz HH hi H;go_enter Tryz.func129,Tryz.ntmps129;go_wp2_with fail;rw[←HW.out];refine(HI.out).mono ?_;rintro e V ⟨rfl,rfl⟩;(try dsimp only);go_wp2_with fail;refine(HA.out).mono ?_;rintro e V ⟨rfl,rfl⟩;(try dsimp only);go_wp2_with fail;refine(HD.out).mono ?_;rintro e V ⟨rfl,hb⟩;(try dsimp only);replace r0:=r0.below hb r0.lt;replace hB:=hB.trans (hb.mono hB.size);clear hb;have z0:=r0.free 0;have z1:=r0.free 1;have z2:=r0.free 2;have z3:=r0.free 3;have z4:=r0.free 4;obtain⟨p0,p1,p2,p3,p4⟩:=r0.cells5;obtain⟨f0,f1,f2,f3,f4⟩:=Row.cells5 (store5 r0 (.int .i64 x0) (.int .i64 x1) (.int .i64 x2) (.int .u32 x3) (.int .u32 x4));have HE:=hid (below_store5 hB (Nat.le_refl _) (.int .i64 x0) (.int .i64 x1) (.int .i64 x2) (.int .u32 x3) (.int .u32 x4));clear HW HI HA HD;go_wp2_with fail;refine bodyPost_ret (v:= .tuple #[.agg #[.int .i64 x0,.int .i64 x1,.int .i64 x2,.int .u32 x3,.int .u32 x4],.int .i64 0]) (by simp[results,Tryz.results129,go_sem,f0,f1,f2,f3,f4]) rfl ⟨rfl,HE.out⟩
 ·have e1:hdX h o=hdZ:=(by unfold hdX;rw[if_neg hi]);have e2:erX h o=3:=by unfold erX;rw[if_neg hi]
  rw[e1,e2];rw[Bool.not_eq_true]at hi;have hI:=HI.out;rw[hi]at hI;have HI:=hid hI;have z0:=r0.free 0;have z1:=r0.free 1;have z2:=r0.free 2;have z3:=r0.free 3;have z4:=r0.free 4;obtain⟨p0,p1,p2,p3,p4⟩:=r0.cells5;obtain⟨f0,f1,f2,f3,f4⟩:=Row.cells5 (store5 r0 (.int .i64 0) (.int .i64 0) (.int .i64 0) (.int .u32 0) (.int .u32 0));have HE:=hid (below_store5 hB (Nat.le_refl _) (.int .i64 0) (.int .i64 0) (.int .i64 0) (.int .u32 0) (.int .u32 0));clear hI e1 e2 hW hz HH hi H;go_enter Tryz.func129,Tryz.ntmps129;go_wp2_with fail;rw[←HW.out];refine(HI.out).mono ?_;rintro e V ⟨rfl,rfl⟩;(try dsimp only);clear HW HI;go_wp2_with fail;refine bodyPost_ret (v:= .tuple #[hdV hdZ,.int .i64 3]) (by simp[results,Tryz.results129,go_sem,f0,f1,f2,f3,f4,hdV,hdZ]) rfl ⟨rfl,HE.out⟩
theorem heap_pointers(x:Hd)(w:World):Calls Tryz.prog 210 #[hdV x] w fun e w'=>e= .returned (.bool (decide (x.fmt=1)||decide (x.fmt=4)))∧Below w.heap.size w w':=by
 have hB:Below w.heap.size w (w.alloc (.cells #[.int .i64 x.size,.int .i64 x.fmt,.int .i64 x.spare,.int .u32 x.cls,.int .u32 x.ser] 159)):=(Below.refl _ _).alloc (Nat.le_refl _) _;unfold hdV;generalize x.fmt=f at*
 by_cases h1:f=1
 ·rw[decide_eq_true h1];subst h1;go_enter Tryz.func210,Tryz.ntmps210;go_wp2_with fail;go_ret;exact⟨rfl,hB⟩
 ·have q:((f:Int)==1)=false:=(by rw[beq_eq_false_iff_ne];omega);rw[decide_eq_false h1];by_cases h4:f=4
  ·rw[decide_eq_true h4];subst h4;clear h1 q;go_enter Tryz.func210,Tryz.ntmps210;go_wp2_with fail;go_ret;exact⟨rfl,hB⟩
  ·have q4:((f:Int)==4)=false:=(by rw[beq_eq_false_iff_ne];omega);rw[decide_eq_false h4];clear h1 h4;go_enter Tryz.func210,Tryz.ntmps210;go_wp2_with fail;go_ret;exact⟨rfl,hB⟩
theorem heap_length(x:Hd)(k:x.Ok∨x=hdZ)(w:World):Calls Tryz.prog 214 #[hdV x] w fun e w'=>e= .returned (.int .i64 x.len)∧Below w.heap.size w w':=by
 have hB:Below w.heap.size w (w.alloc (.cells #[.int .i64 x.size,.int .i64 x.fmt,.int .i64 x.spare,.int .u32 x.cls,.int .u32 x.ser] 159)):=(Below.refl _ _).alloc (Nat.le_refl _) _;have h1:x.size≤65535:=by rcases k with k|k;exact k.size;rw[k];decide
 have h2:x.spare≤3:=by rcases k with k|k;exact k.spare;rw[k];decide
 have h3:x.spare=0∨(x.fmt=2∧0<x.size):=by rcases k with k|k;exact k.sp;rw[k];decide
 unfold hdV Hd.len;generalize x.fmt=f at*
 generalize x.size=n at*
 generalize x.spare=s at*
 by_cases hf:f=2
 ·rw[if_pos hf];subst hf;have e:((4*n-s:Nat):Int)=4*(n:Int)-(s:Int):=by omega
  rw[e];clear e h3 k;go_enter Tryz.func214,Tryz.ntmps214;go_wp2_with fail;go_ret;exact⟨rfl,hB⟩
 ·have q:((f:Int)==2)=false:=(by rw[beq_eq_false_iff_ne];omega);rw[if_neg hf];clear hf h3 k;go_enter Tryz.func214,Tryz.ntmps214;go_wp2_with fail;go_ret;exact⟨rfl,hB⟩
end
end Go.Proofs.YtbffpkmfhkphdaaGreatDoor
namespace Go.Proofs.YtbffpkmfhkphdaaGreatDoor
open Go Lib Go.RowKit Limb
theorem str_eq{s:ByteArray}{l:List UInt8}(h:s.data.toList=l):s=⟨l.toArray⟩:=by cases s;subst h;simp
theorem law_awake(w:World):Calls Tryz.prog 11 #[] w fun e w'=>e= .returned (.bool true)∧Below w.heap.size w w':=by
 have HOf:=hid (fun(X:World) (v:Int) (h1: -9223372036854775808≤v) (h2:v≤9223372036854775807)=>(large_of X v h1 h2).mono fun e X' he=>show(∃b a n c,e= .returned (.agg #[.bool b,.slice a n c])∧Hid (b=decide (v<0)∧n=(rep v.natAbs).length∧n≤c∧Lay .u32 X' a (rep v.natAbs)))∧Below X.heap.size X X' from by
  obtain⟨u,rfl,hu,hb⟩:=he;obtain⟨b,a,n,c,rfl,hh⟩:=hu.open;exact⟨⟨b,a,n,c,rfl,hh⟩,hb⟩)
 go_enter Tryz.func11,Tryz.ntmps11;go_wp2_with fail;refine(HOf.out w 2 (by decide) (by decide)).mono ?_;rintro e w1 ⟨⟨b1,a1,n1,c1,rfl,H1⟩,hb1⟩;have hP:=large_pow_big w1 b1 a1 (rep ((2:Int).natAbs)) n1 c1 100 2 H1.out.2.2.2 (rep_lim _) H1.out.2.1 (by rw[H1.out.1];exact mayB_small (by decide)) (by rw[H1.out.1,signed_rep]) (by decide) (by decide) (by decide) (by decide);have HP:=hid hP;clear hP;go_wp2_with fail;refine HP.out.mono ?_;rintro e w2 hans;obtain⟨b2,a2,n2,c2,rfl,H2,hb2⟩:=hans.ok (by decide);have H2':=hid H2.out.parts;clear hans;have hB2:Below w.heap.size w w2:=hb1.trans (hb2.mono hb1.size);have hb3:Below w2.heap.size w2 (w2.alloc (.cells #[.bool b2,.slice a2 n2 c2] 24)):=(Below.refl _ _).alloc (Nat.le_refl _) _;have hB3:=hB2.trans (hb3.mono hB2.size);have hPr:=large_print_ok (w2.alloc (.cells #[.bool b2,.slice a2 n2 c2] 24)) b2 a2 (rep ((2:Int)^100).natAbs) n2 c2 10 (H2'.out.2.2.2.below hb3) (rep_lim _) H2'.out.2.1 (by rw[H2'.out.1];exact mayB_small (by decide)) (by decide) (by decide);rw[H2'.out.1,signed_rep,awake_text,←H2'.out.1]at hPr;have HPr:=hid hPr;clear hPr;go_wp2_with fail;refine HPr.out.mono ?_;rintro e w4 ⟨⟨s,rfl,hs⟩,hb4⟩;have hs':=str_eq hs;subst hs';clear hs;have hB4:=hB3.trans (hb4.mono hB3.size);go_wp2_with fail;refine(HOf.out w4 (-7) (by decide) (by decide)).mono ?_;rintro e w5 ⟨⟨b5,a5,n5,c5,rfl,H5⟩,hb5⟩;have hB5:=hB4.trans (hb5.mono hB4.size);go_wp2_with fail;refine(HOf.out w5 2 (by decide) (by decide)).mono ?_;rintro e w6 ⟨⟨b6,a6,n6,c6,rfl,H6⟩,hb6⟩;have hB6:=hB5.trans (hb6.mono hB5.size);have hD:=large_div w6 b5 b6 a5 a6 (rep (-7:Int).natAbs) (rep (2:Int).natAbs) n5 n6 c5 c6 (H5.out.2.2.2.below hb6) H6.out.2.2.2 (rep_lim _) (rep_lim _) H5.out.2.1 H6.out.2.1 (by rw[H5.out.2.1];decide) (by rw[H6.out.2.1];decide);rw[H5.out.1,H6.out.1,signed_rep,signed_rep,mayB_small (by decide),mayB_small (by decide),←H5.out.1,←H6.out.1]at hD;have HD:=hid hD;clear hD;go_wp2_with fail;refine HD.out.mono ?_;rintro e w7 hans;obtain⟨b7,a7,n7,c7,b8,a8,n8,c8,rfl,H7,hb7⟩:=DivAnswer.ok hans (by decide);have H7':=hid H7.out.1.parts;have H8':=hid H7.out.2.parts;rw[show dquo true (-7) 2= -4 from by decide]at H7';rw[show drem true (-7) 2=1 from by decide]at H8';clear H7 hans;obtain rfl:b7=true:=H7'.out.1;obtain rfl:b8=false:=H8'.out.1;obtain rfl:n7=1:=H7'.out.2.1;obtain rfl:n8=1:=H8'.out.2.1;have hB7:=hB6.trans (hb7.mono hB6.size)
 have y7:Row ((w7.alloc (.cells #[.bool true,.slice a7 1 c7] 24)).alloc (.cells #[.bool false,.slice a8 1 c8] 24)) (w7.heap.size+1) 24 [.bool false,.slice a8 1 c8]:=by
  have h:=heap_alloc_new (w7.alloc (.cells #[.bool true,.slice a7 1 c7] 24)) (.cells #[.bool false,.slice a8 1 c8] 24);rw[World.size_alloc]at h;exact h
 have hb8:Below w7.heap.size w7 ((w7.alloc (.cells #[.bool true,.slice a7 1 c7] 24)).alloc (.cells #[.bool false,.slice a8 1 c8] 24)):=((Below.refl _ _).alloc (Nat.le_refl _) _).alloc (by rw[World.size_alloc];omega) _;have hsz8:((w7.alloc (.cells #[.bool true,.slice a7 1 c7] 24)).alloc (.cells #[.bool false,.slice a8 1 c8] 24)).heap.size=w7.heap.size+1+1:=by rw[World.size_alloc,World.size_alloc]
 obtain⟨Y,hY⟩: ∃Y,Y=((w7.alloc (.cells #[.bool true,.slice a7 1 c7] 24)).alloc (.cells #[.bool false,.slice a8 1 c8] 24)):=⟨_,rfl⟩;rw[←hY]at y7 hb8 hsz8;have hB8:=hB7.trans (hb8.mono hB7.size);have l4:=row_one Y 60 .u32 4 4 rfl;rw[hsz8]at l4;have hbl4:Below Y.heap.size Y (Y.alloc (.cells #[.int .u32 4] 60)):=(Below.refl _ _).alloc (Nat.le_refl _) _;have hS:=law_same _ true a7 (some ⟨w7.heap.size+1+1,0,none⟩) [4] 1 c7 1 ((H7'.out.2.2.2.below hb8).below hbl4) l4 rfl (by decide);have y7':=y7.below hbl4 y7.lt;have hB9:=hB8.trans (hbl4.mono hB8.size);obtain⟨Z,hZ⟩: ∃Z,Z=Y.alloc (.cells #[.int .u32 4] 60):=⟨_,rfl⟩;have l1':=(H8'.out.2.2.2.below hb8).below hbl4;rw[←hZ]at hS y7' hB9 l1';have HS:=hid hS;clear hS;rw[hY]at hZ;have HZ:=hid hZ;clear hZ hY;clear y7 hb8 hsz8 l4 hbl4;go_wp2_with fail;rw[←HZ.out];refine HS.out.mono ?_;rintro e w8 ⟨rfl,hb9⟩;have y8:=y7'.below hb9 y7'.lt;have k0:=y8.cell_at 0;have k1:=y8.cell_at 1;simp only[yB,yC]at k0 k1;have hB10:=hB9.trans (hb9.mono hB9.size);have l1:=row_one w8 60 .u32 1 1 rfl;have hbl1:Below w8.heap.size w8 (w8.alloc (.cells #[.int .u32 1] 60)):=(Below.refl _ _).alloc (Nat.le_refl _) _;have HS2:=hid (law_same _ false a8 (some ⟨w8.heap.size,0,none⟩) [1] 1 c8 1 ((l1'.below hb9).below hbl1) l1 rfl (by decide));have hB11:=hB10.trans (hbl1.mono hB10.size);clear y7' y8 l1' l1;go_wp2_with fail;refine HS2.out.mono ?_;rintro e w9 ⟨rfl,hb11⟩;go_wp2_with fail;go_ret;exact⟨rfl,hB11.trans (hb11.mono hB11.size)⟩
end Go.Proofs.YtbffpkmfhkphdaaGreatDoor
namespace Go.Proofs.YtbffpkmfhkphdaaGreatDoor
open Go Go.ChangeShapes Go.WideShapes Go.ChangeAt Go.RowKit Limb
theorem came_of_ints{W:World}{b:Bool}{a:Addr}{len cap:Nat}{zs:List Int}(hl:len≤cap)(hm:cap≤maxLen)(hz:zs.length=cap)(hc: ∀i,i<zs.length→W.cell? (a.add i)=some (.int .u32 (zs.getD i 0)))(hw: ∀n∈zs,(Lit.int .u32 n).wf=true): ∃l,Came W b (some a) len l:=by
 refine⟨(zs.take len).map Int.toNat,?_,?_,by simp;omega,by unfold maxLen at hm;omega⟩
 ·by_cases h0:0<len
  ·obtain⟨blk,off,rfl,hcell⟩:=ints_at hc (by omega);refine⟨blk,off,fun _=>⟨rfl,World.block_lt_of_cell? W _ (hcell 0 (by omega))⟩,fun i hi=>?_⟩;have hi':i<len:=by simp at hi;omega
   have hiz:i<zs.length:=(by omega);rw[hcell i hiz];have e:zs.getD i 0=zs[i]:=by rw[List.getD_eq_getElem?_getD,List.getElem?_eq_getElem hiz];rfl
   have hb:=bounds_u32 (hw zs[i] (List.getElem_mem hiz));rw[e,wd_lt hi];simp only[List.getElem_map,List.getElem_take];rw[Int.toNat_of_nonneg hb.1]
  ·have:len=0:=(by omega);subst this;exact Lay.nil _ _ _
 ·intro x hx;obtain⟨n,hn,rfl⟩:=List.mem_map.1 hx;have hb:=bounds_u32 (hw n (List.mem_of_mem_take hn));omega
section
variable {H:Type} {enc:TypeId×Value→H}
theorem open_api{W:World}{base:Nat}{v:Value}{d:DataW H}{p:List MemPlace}(hv:Value.okWide Tryz.prog W .any base 24 v)(h:DataW.Trod enc Tryz.prog W 0 (fun _=>true) true 24 v d p): ∃b a n c l,v= .agg #[.bool b,.slice a n c]∧Came W b a n l∧n≤c:=by
 obtain⟨v0,v1,y0,y1,n,rfl,_,_,h0,h1⟩:=Joins.open_agg2 Tryz.underlying24 (by kernel_rfl) (by kernel_rfl) hv h;have h0:DataW.trod enc Tryz.prog W 0 (fun _=>true) true n 4 [v0]=some y0:=h0;have h1:DataW.trod enc Tryz.prog W 0 (fun _=>true) true n 22 [v1]=some y1:=h1;obtain⟨b,e0,_⟩:=DataW.trod_bool Tryz.underlying4 h0;have e0:v0= .bool b:=by simpa using e0
 subst e0;rcases open_ints Tryz.underlying22 Tryz.underlying60 (by kernel_rfl) h1 with⟨e1,_⟩|⟨a,len,cap,zs,e1,_,hl,hm,hz,_,hc,hw⟩
 ·have e1:v1= .slice none 0 0:=(by simpa using e1);subst e1;exact⟨b,none,0,0,[],rfl,⟨Lay.nil _ _ _,Lim.nil,rfl,by decide⟩,Nat.le_refl _⟩
 ·have e1:v1= .slice (some a) len cap:=(by simpa using e1);subst e1;simp only[if_true]at hz;obtain⟨l,hcame⟩:=came_of_ints (b:=b) hl hm hz hc hw;exact⟨b,some a,len,cap,l,rfl,hcame,hl⟩
end
end Go.Proofs.YtbffpkmfhkphdaaGreatDoor
